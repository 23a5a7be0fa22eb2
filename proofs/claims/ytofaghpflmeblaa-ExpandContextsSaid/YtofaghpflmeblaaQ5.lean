/- expand: a context in memory; must, got, accepts, moved, joined. expand: plain mathematics: headers joined from a context, the length field of a packet with a full header. expand: packet, raw, compact. expand: compact, delta. expand: delta. many stores into one block, at once. expand: full. expand: caught and the closures that it calls; checked. -/
import Derived.Test.YtofaghpflmeblaaQ3
import Derived.Test.YtofaghpflmeblaaQ2
import Derived.Deep.MidRow
import Derived.Defers
import Derived.Recover
import Derived.Laws.Pointers
namespace Go.Proofs.Ytofaghpflmeblaa
open Go.RowKit

attribute [local go_sem ↓] Go.wp_at_zero Go.wp_at_succ

/-- a context of the expander -/
structure Ec where
  hops : Int
  ident : Int
  time : Int
  valid : Bool
  f0 : Int
  f1 : Int
  f2 : Int
  f3 : Int
  f4 : Int
  gen : Int
  step : Int
def Ec.zero : Ec := ⟨0, 0, 0, false, 0, 0, 0, 0, 0, 0, 0⟩
def Ec.cells (c : Ec) : List Value := [.int .i64 c.hops, .int .i64 c.ident, .int .i64 c.time, .bool c.valid, .int .i64 c.f0, .int .i64 c.f1, .int .i64 c.f2, .int .i64 c.f3, .int .i64 c.f4, .int .u8 c.gen, .int .i64 c.step]
def Ec.cell (c : Ec) (k : Nat) : Value := c.cells.getD k undef
def Ec.arr (c : Ec) : Array Value := #[.int .i64 c.hops, .int .i64 c.ident, .int .i64 c.time, .bool c.valid, .int .i64 c.f0, .int .i64 c.f1, .int .i64 c.f2, .int .i64 c.f3, .int .i64 c.f4, .int .u8 c.gen, .int .i64 c.step]
/-- a context that lies in a block of its own -/
def KB (w : World) (k : Nat) (c : Ec) : Prop := Blk w k 59 c.arr
theorem KB.cells {w : World} {k : Nat} {c : Ec} (h : KB w k c) :
    w.cell? ⟨k, 0, none⟩ = some (.int .i64 c.hops) ∧ w.cell? ⟨k, 1, none⟩ = some (.int .i64 c.ident) ∧ w.cell? ⟨k, 2, none⟩ = some (.int .i64 c.time) ∧ w.cell? ⟨k, 3, none⟩ = some (.bool c.valid) ∧
    w.cell? ⟨k, 4, none⟩ = some (.int .i64 c.f0) ∧ w.cell? ⟨k, 5, none⟩ = some (.int .i64 c.f1) ∧ w.cell? ⟨k, 6, none⟩ = some (.int .i64 c.f2) ∧ w.cell? ⟨k, 7, none⟩ = some (.int .i64 c.f3) ∧ w.cell? ⟨k, 8, none⟩ = some (.int .i64 c.f4) ∧
    w.cell? ⟨k, 9, none⟩ = some (.int .u8 c.gen) ∧ w.cell? ⟨k, 10, none⟩ = some (.int .i64 c.step) :=
  ⟨Blk.cell h 0, Blk.cell h 1, Blk.cell h 2, Blk.cell h 3, Blk.cell h 4, Blk.cell h 5, Blk.cell h 6, Blk.cell h 7, Blk.cell h 8, Blk.cell h 9, Blk.cell h 10⟩

/-- the end of a call that panics with an error's number -/
@[reducible] def errno (x : Int) : Ending := .panicked [{ v := .iface 28 (.int .i64 x), recovered := false }]
theorem emust_true (e : Int) (w : World) : Calls Try.prog 32 #[.bool true, .int .i64 e] w fun en w' => en = .returned (.tuple #[]) ∧ w' = w := by
  go_enter Try.func32, Try.ntmps32
  go_wp2
  go_end0
  exact ⟨rfl, rfl⟩
theorem emust_false (e : Int) (w : World) : Calls Try.prog 32 #[.bool false, .int .i64 e] w fun en w' => en = errno e ∧ w' = w := by
  go_enter Try.func32, Try.ntmps32
  go_wp2
  exact ⟨rfl, rfl, rfl⟩
theorem egot_ok (B : Option Addr) (n c : Nat) (w : World) : Calls Try.prog 78 #[.slice B n c, .int .i64 0] w fun en w' => en = .returned (.slice B n c) ∧ w' = w := by
  go_enter Try.func78, Try.ntmps78
  go_wp2_with (go_at_call 32; refine (emust_true _ _).mono ?_; rintro e w1 ⟨rfl, rfl⟩)
  go_ret
  exact ⟨rfl, rfl⟩

/-- the error of a packet with a delta or compact header of k bytes -/
def acErr (c : Ec) (n : Nat) (z : Nat → Int) (k : Nat) (g : Int) : Int :=
  if z 2 = 0 then 9 else if 8980 < (n : Int) - (k : Int) then 4 else if c.valid = true ∧ z 1 = g then 0 else 11
def acEnd (x : Int) : Ending := if x = 0 then .returned (.tuple #[]) else errno x

set_option maxRecDepth 100000 in
set_option maxHeartbeats 1600000 in
theorem accepts_ok (kb : Nat) (c : Ec) (A : Option Addr) (n cp : Nat) (z : Nat → Int) (k : Nat) (g : Int) (hn : 2 < n) (hm : n ≤ maxLen) (hk : k ≤ 20) (hz : ∀ j, j < n → 0 ≤ z j ∧ z j < 256) (w : World) (h : KB w kb c) (hr : Row w w.heap.size A n (fun j => .int .u8 (z j))) :
    Calls Try.prog 55 #[.pointer (some ⟨kb, 0, none⟩), .slice A n cp, .int .i64 (k : Int), .int .u8 g] w fun e w' => e = acEnd (acErr c n z k g) ∧ w' = w := by
  unfold maxLen at hm
  obtain ⟨lb, lo, rfl, hlb, hc⟩ := hr (by omega)
  have c2 : w.cell? ⟨lb, lo + 2, none⟩ = some (.int .u8 (z 2)) := hc 2 (by omega)
  have c1 : w.cell? ⟨lb, lo + 1, none⟩ = some (.int .u8 (z 1)) := hc 1 (by omega)
  have c3 := h.cells.2.2.2.1
  have z2 := hz 2 (by omega)
  obtain ⟨E, hE⟩ : ∃ E, E = acErr c n z k g := ⟨_, rfl⟩
  rw [← hE]
  unfold acErr at hE
  obtain ⟨x2, hx2⟩ : ∃ x, x = z 2 := ⟨_, rfl⟩
  obtain ⟨x1, hx1⟩ : ∃ x, x = z 1 := ⟨_, rfl⟩
  obtain ⟨v, hv⟩ : ∃ v, v = c.valid := ⟨_, rfl⟩
  rw [← hx2] at c2 z2 hE
  rw [← hx1] at c1 hE
  rw [← hv] at c3 hE
  have kw : IntKind.i64.wrap ((n : Int) - (k : Int)) = (n : Int) - (k : Int) := IntWalk.i64_in _ (by omega)
  have i1 : (1 : Int) < (n : Int) := by omega
  have i2 : (2 : Int) < (n : Int) := by omega
  clear hr hc hz h hx2 hx1 hv
  by_cases h2 : x2 = 0
  · rw [if_pos h2] at hE
    subst hE h2
    go_enter Try.func55, Try.ntmps55
    go_wp2_with (go_at_call 32; refine (emust_false 9 _).mono ?_; rintro e w1 ⟨rfl, rfl⟩)
    exact ⟨rfl, rfl, rfl⟩
  · rw [if_neg h2] at hE
    have h20 : 0 < x2 := by omega
    by_cases h8 : 8980 < (n : Int) - (k : Int)
    · rw [if_pos h8] at hE
      have h81 : ¬ (n : Int) - (k : Int) ≤ 8980 := by omega
      have h82 : decide ((n : Int) - (k : Int) ≤ 8980) = false := by simp; omega
      subst hE
      clear h2 h8
      go_enter Try.func55, Try.ntmps55
      go_wp2_with (first
        | (go_at_call 32; refine (emust_false 4 _).mono ?_; rintro e w1 ⟨rfl, rfl⟩)
        | (go_at_call 32; refine (emust_true 9 _).mono ?_; rintro e w1 ⟨rfl, rfl⟩))
      exact ⟨rfl, rfl, rfl⟩
    · rw [if_neg h8] at hE
      have h81 : (n : Int) - (k : Int) ≤ 8980 := by omega
      have h82 : decide ((n : Int) - (k : Int) ≤ 8980) = true := by simp; omega
      clear h2 h8
      cases v
      · rw [if_neg (by simp)] at hE
        subst hE
        go_enter Try.func55, Try.ntmps55
        go_wp2_with (first
          | (go_at_call 32; refine (emust_false 11 _).mono ?_; rintro e w1 ⟨rfl, rfl⟩)
          | (go_at_call 32; refine (emust_true 9 _).mono ?_; rintro e w1 ⟨rfl, rfl⟩)
          | (go_at_call 32; refine (emust_true 4 _).mono ?_; rintro e w1 ⟨rfl, rfl⟩))
        exact ⟨rfl, rfl, rfl⟩
      · by_cases hg : x1 = g
        · rw [if_pos ⟨rfl, hg⟩] at hE
          subst hE hg
          go_enter Try.func55, Try.ntmps55
          go_wp2_with (go_at_call 32; refine (emust_true _ _).mono ?_; rintro e w1 ⟨rfl, rfl⟩)
          go_end0
          exact ⟨rfl, rfl⟩
        · rw [if_neg (by simp [hg])] at hE
          subst hE
          have hg1 : (x1 == g) = false := by simpa using hg
          clear hg
          go_enter Try.func55, Try.ntmps55
          go_wp2_with (first
            | (go_at_call 32; refine (emust_false 11 _).mono ?_; rintro e w1 ⟨rfl, rfl⟩)
            | (go_at_call 32; refine (emust_true 9 _).mono ?_; rintro e w1 ⟨rfl, rfl⟩)
            | (go_at_call 32; refine (emust_true 4 _).mono ?_; rintro e w1 ⟨rfl, rfl⟩))
          exact ⟨rfl, rfl, rfl⟩

theorem moved_ok (a b c n t : Int) (w : World) (k1 : IntKind.i64.wrap (b + n) = b + n) (k2 : IntKind.i64.wrap (c + t) = c + t) :
    Calls Try.prog 57 #[.agg #[.int .i64 a, .int .i64 b, .int .i64 c], .int .i64 n, .int .i64 t] w fun e w' => e = .returned (.agg #[.int .i64 a, .int .i64 ((b + n) % 65536), .int .i64 ((c + t) % 16777216)]) ∧ Below w.heap.size w w' := by
  have a1 := and_low16 (b + n)
  have a2 := and_low24 (c + t)
  go_enter Try.func57, Try.ntmps57
  go_wp2
  exact bodyPost_ret (v := .agg #[.int .i64 a, .int .i64 ((b + n) % 65536), .int .i64 ((c + t) % 16777216)]) (by simp [results, Try.results57, go_sem]) rfl ⟨rfl, ((Below.refl _ w).alloc (Nat.le_refl _) _).alloc (by simp) _⟩

theorem ejoined_ok (m sb : Nat) (A : Nat → Option Addr) (n c : Nat → Nat) (z : Nat → Nat → Int) (hm : m ≤ 100) (h0 : 0 < tot n m) (hN : tot n m ≤ 1000000) (w : World) (hsb : sb < w.heap.size)
    (hc : ∀ k, k < m → w.cell? ⟨sb, k, none⟩ = some (.slice (A k) (n k) (c k))) (hr : ∀ k, k < m → Row w w.heap.size (A k) (n k) (fun j => .int .u8 (z k j))) :
    Calls Try.prog 56 #[.slice (some ⟨sb, 0, none⟩) m m] w fun e w' => ∃ B d, e = .returned (.slice B (tot n m) d) ∧ tot n m ≤ d ∧ Fresh w.heap.size B ∧ Row w' w'.heap.size B (tot n m) (fun j => .int .u8 (catY n z m j)) ∧ Below w.heap.size w w' := by
  have HC := Lib.hid (concat_ok m sb A n c z hm h0 hN w hsb hc hr)
  have HAT := Lib.hid (catI_at n z m)
  obtain ⟨N, hNe⟩ : ∃ N, N = tot n m := ⟨_, rfl⟩
  obtain ⟨Y, hY⟩ : ∃ Y, Y = catY n z m := ⟨_, rfl⟩
  rw [← hNe, ← hY] at HAT
  rw [← hNe] at HC hN
  rw [← hNe, ← hY]
  clear hc hr h0 hNe hY
  go_enter Try.func56, Try.ntmps56
  go_wp2_with (go_at_call 69; refine (HC.out).mono ?_; rintro e w2 ⟨v2, rfl, ho2, b2⟩; obtain ⟨A2, c2, hv2, hc2, _, hf2, hr2⟩ := own_any (f := fun j => .int .u8 (Y j)) ho2 HAT.out; subst hv2; have HR2 := Lib.hid hr2; have HC2 := Lib.hid hc2; have HF2 := Lib.hid hf2; have B2 := Lib.hid b2; clear ho2 hr2 b2 hc2 hf2)
  go_ret
  exact ⟨_, _, rfl, HC2.out, HF2.out, HR2.out, B2.out⟩
end Go.Proofs.Ytofaghpflmeblaa
namespace Go.Proofs.Ytofaghpflmeblaa
open Go.RowKit
set_option linter.unusedVariables false

/-- what a context always holds -/
structure Ec.Ok (c : Ec) : Prop where
  hops : 0 ≤ c.hops ∧ c.hops < 256
  ident : 0 ≤ c.ident ∧ c.ident < 65536
  time : 0 ≤ c.time ∧ c.time < 16777216
  f0 : 0 ≤ c.f0 ∧ c.f0 < 16
  f1 : 0 ≤ c.f1 ∧ c.f1 < 65536
  f2 : 0 ≤ c.f2 ∧ c.f2 < 4294967296
  f3 : 0 ≤ c.f3 ∧ c.f3 < 4294967296
  f4 : 0 ≤ c.f4 ∧ c.f4 < 256
  gen : 0 ≤ c.gen ∧ c.gen < 256
  step : 0 ≤ c.step ∧ c.step < 65536
theorem Ec.zero_ok : Ec.zero.Ok := ⟨by decide, by decide, by decide, by decide, by decide, by decide, by decide, by decide, by decide, by decide⟩

/-- the header of a context's flow with an anchor's fields -/
def hj (c : Ec) (a i t : Int) (k : Nat) : Int := ([c.f0, c.f1, c.f2, c.f3, c.f4, a, i, t, 0] : List Int).getD k 0
theorem hj_wrong (c : Ec) (a i t : Int) (hc : c.Ok) (ha : 0 ≤ a ∧ a < 256) (hi : 0 ≤ i ∧ i < 65536) (ht : 0 ≤ t ∧ t < 16777216) : anyWrong (withLen (hj c a i t) 20) = false :=
  anyWrong_of _ fun k hk => ten (p := fun k => 0 ≤ hval (withLen (hj c a i t) 20) k ∧ hval (withLen (hj c a i t) 20) k < 2 ^ pwd k)
    (by show (0 : Int) ≤ 5 ∧ (5 : Int) < 2 ^ 4; decide) hc.f0 hc.f1 hc.f2 hc.f3 hc.f4 ha hi ht (by show (0 : Int) ≤ 20 ∧ (20 : Int) < 2 ^ 16; decide) k hk
theorem hj_valid (c : Ec) (a i t : Int) (n : Nat) (hc : c.Ok) (ha : 0 ≤ a ∧ a < 256) (hi : 0 ≤ i ∧ i < 65536) (ht : 0 ≤ t ∧ t < 16777216) (hn : n ≤ 8980) : validB (withLen (hj c a i t) (20 + n)) = true :=
  validB_len _ 20 _ (hj_wrong c a i t hc ha hi ht) (by omega) (by omega)

/-- the packet of n bytes z with a full header -/
def fullY (n : Nat) (z : Nat → Int) (j : Nat) : Int := if j < 18 then z (2 + j) else if j = 18 then (n : Int) / 256 else if j = 19 then (n : Int) % 256 else z j
theorem fullY_byte (n : Nat) (z : Nat → Int) (hn : 20 ≤ n) (hm : n ≤ 9000) (hz : ∀ j, j < n → 0 ≤ z j ∧ z j < 256) (j : Nat) (hj : j < n) : 0 ≤ fullY n z j ∧ fullY n z j < 256 := by
  unfold fullY
  split
  · exact hz _ (by omega)
  · split
    · omega
    · split
      · omega
      · exact hz _ hj
theorem hb_two (y : Nat → Int) (a b : Nat) (_ : a < 256) (hb : b < 256) (h18 : y 18 = (a : Int)) (h19 : y 19 = (b : Int)) (i : Nat) (hi : i < 16) : HM.hb y (144 + i) = vbit (a * 256 + b) 16 i := by
  have key : ∀ k : Nat, k < 16 → (if k < 8 then a / 2 ^ (7 - k) % 2 else b / 2 ^ (15 - k) % 2) = (a * 256 + b) / 2 ^ (15 - k) % 2 := by
    intro k hk
    by_cases h8 : k < 8
    · rw [if_pos h8, show 15 - k = 8 + (7 - k) by omega, Nat.pow_add, ← Nat.div_div_eq_div_mul]
      congr 2
      show a = (a * 256 + b) / 256
      omega
    · rw [if_neg h8]
      have hk8 : k = 8 ∨ k = 9 ∨ k = 10 ∨ k = 11 ∨ k = 12 ∨ k = 13 ∨ k = 14 ∨ k = 15 := by omega
      rcases hk8 with rfl | rfl | rfl | rfl | rfl | rfl | rfl | rfl <;> simp <;> omega
  unfold HM.hb vbit
  rw [show 16 - 1 - i = 15 - i by omega, ← key i hi]
  by_cases h8 : i < 8
  · rw [if_pos h8, show (144 + i) / 8 = 18 by omega, show (144 + i) % 8 = i by omega, h18, Int.toNat_natCast]
  · rw [if_neg h8, show (144 + i) / 8 = 19 by omega, show (144 + i) % 8 = i - 8 by omega, h19, Int.toNat_natCast, show 7 - (i - 8) = 15 - i by omega]
theorem fieldv_len (y : Nat → Int) (a b : Nat) (ha : a < 256) (hb : b < 256) (h18 : y 18 = (a : Int)) (h19 : y 19 = (b : Int)) : fieldv y 9 = a * 256 + b := by
  have := getv_bits y (0 + so pwd 9) 16 (a * 256 + b) (by omega) (fun i hi => by
    have e : 0 + so pwd 9 = 144 := by decide
    rw [e]; exact hb_two y a b ha hb h18 h19 i hi) 16 (Nat.le_refl _)
  show getv y (0 + so pwd 9) 16 = _
  rw [this]; simp
theorem fullY_pErr (n : Nat) (z : Nat → Int) (hn : 20 ≤ n) (hm : n ≤ 9000) (h2 : z 2 / 16 = 5) (hb : 0 ≤ z 2 ∧ z 2 < 256) : pErr n (fullY n z) = 0 := by
  have e0 : fieldv (fullY n z) 0 = 5 := by
    have := fieldv_zero (fullY n z) (z 2).toNat (by show fullY n z 0 = _; unfold fullY; rw [if_pos (by decide)]; show z 2 = _; omega) (by omega)
    rw [this]; omega
  have e9 : fieldv (fullY n z) 9 = n := by
    have := fieldv_len (fullY n z) (n / 256) (n % 256) (by omega) (by omega) (by unfold fullY; rw [if_neg (by decide), if_pos rfl]; omega) (by unfold fullY; rw [if_neg (by decide), if_neg (by decide), if_pos rfl]; omega)
    rw [this]; omega
  unfold pErr
  rw [if_neg (by omega), if_neg (by omega), if_pos ⟨e0, e9⟩]
/-- a context behind a packet with a full header -/
def fullC (n : Nat) (z : Nat → Int) : Ec := ⟨pHdr n (fullY n z) 5, pHdr n (fullY n z) 6, pHdr n (fullY n z) 7, true, pHdr n (fullY n z) 0, pHdr n (fullY n z) 1, pHdr n (fullY n z) 2, pHdr n (fullY n z) 3, pHdr n (fullY n z) 4, z 1, 0⟩
theorem pHdr_in (n : Nat) (z : Nat → Int) (j : Nat) : 0 ≤ pHdr n z j ∧ pHdr n z j < ((2 ^ pwd (j + 1) : Nat) : Int) := by
  have hp : 0 < 2 ^ pwd (j + 1) := Nat.two_pow_pos _
  unfold pHdr gpart
  split
  · split
    · have := getv_lt z (0 + so pwd (j + 1)) (pwd (j + 1))
      unfold fieldv
      omega
    · omega
  · omega
theorem fullC_ok (n : Nat) (z : Nat → Int) (h1 : 0 ≤ z 1 ∧ z 1 < 256) : (fullC n z).Ok :=
  ⟨pHdr_in n _ 5, pHdr_in n _ 6, pHdr_in n _ 7, pHdr_in n _ 0, pHdr_in n _ 1, pHdr_in n _ 2, pHdr_in n _ 3, pHdr_in n _ 4, h1, by show (0 : Int) ≤ 0 ∧ (0 : Int) < 65536; decide⟩
/-- a context behind a packet with a delta header -/
def deT (z : Nat → Int) : Int := 256 * z 3 + z 4
def deltaC (c : Ec) (z : Nat → Int) : Ec := { c with hops := z 5, ident := (c.ident + z 2) % 65536, time := (c.time + deT z) % 16777216, gen := z 1, step := deT z / z 2 }
theorem deltaC_ok (c : Ec) (z : Nat → Int) (hc : c.Ok) (h1 : 0 ≤ z 1 ∧ z 1 < 256) (h2 : 0 < z 2 ∧ z 2 < 256) (h3 : 0 ≤ z 3 ∧ z 3 < 256) (h4 : 0 ≤ z 4 ∧ z 4 < 256) (h5 : 0 ≤ z 5 ∧ z 5 < 256) : (deltaC c z).Ok := by
  have q0 : 0 ≤ deT z / z 2 := Int.ediv_nonneg (by unfold deT; omega) (by omega)
  have q1 : deT z / z 2 ≤ deT z := Int.ediv_le_self _ (by unfold deT; omega)
  exact ⟨h5, by show 0 ≤ (_ : Int) % 65536 ∧ (_ : Int) % 65536 < 65536; omega, by show 0 ≤ (_ : Int) % 16777216 ∧ (_ : Int) % 16777216 < 16777216; omega, hc.f0, hc.f1, hc.f2, hc.f3, hc.f4, h1, q0, by show deT z / z 2 < 65536; unfold deT at *; omega⟩
end Go.Proofs.Ytofaghpflmeblaa
namespace Go.Proofs.Ytofaghpflmeblaa
open Go.RowKit
set_option linter.unusedVariables false

attribute [local go_sem ↓] Go.wp_at_zero Go.wp_at_succ

/-- bytes are handed back, in new memory -/
def POut (len : Nat) (y : Nat → Int) (w : World) (e : Ending) (w' : World) : Prop :=
  ∃ B d, e = .returned (.slice B len d) ∧ len ≤ d ∧ Fresh w.heap.size B ∧ Row w' w'.heap.size B len (fun j => .int .u8 (y j)) ∧ Below w.heap.size w w'
theorem slice_from (lb lo n c k : Nat) (kk : Int) (hkk : kk = (k : Int)) (hk : k ≤ n) (hnc : n ≤ c) : ∃ lo2, (∀ w, (Instr.slice 24 (.slice (some ⟨lb, lo, none⟩) n c) (some (.int .i64 kk)) none none).run Try.prog w = .ok (.slice (some ⟨lb, lo2, none⟩) (n - k) (c - k)) w) ∧ (k < n → lo2 = lo + k) := by
  subst hkk
  have hm0 : (k : Int) ≤ (n : Int) := by omega
  by_cases hc : c = k
  · subst hc
    exact ⟨lo, fun w => by simp [go_sem, hm0], fun h => by omega⟩
  · exact ⟨lo + k, fun w => by simp [go_sem, hm0, hc], fun _ => rfl⟩
theorem row_from {W : World} {B n lb lo lo2 k : Nat} {z : Nat → Int} (h : Row W B (some ⟨lb, lo, none⟩) n (fun j => .int .u8 (z j))) (hl : k < n → lo2 = lo + k) : Row W B (some ⟨lb, lo2, none⟩) (n - k) (fun j => .int .u8 (z (k + j))) := fun hn => by
  obtain ⟨b, off, e, hb, hc⟩ := h (by omega)
  cases e
  have := hl (by omega)
  subst this
  exact ⟨lb, lo + k, rfl, by omega, fun j hj => by rw [show lo + k + j = lo + (k + j) by omega]; exact hc (k + j) (by omega)⟩

set_option maxRecDepth 100000 in
set_option maxHeartbeats 1600000 in
theorem epacket_ok (kb : Nat) (c : Ec) (a i t : Int) (A : Option Addr) (n cp : Nat) (z : Nat → Int) (hn : n ≤ 8980) (hv : validB (withLen (hj c a i t) (20 + n)) = true) (w : World) (h : KB w kb c) (hr : Row w w.heap.size A n (fun j => .int .u8 (z j))) :
    Calls Try.prog 58 #[.pointer (some ⟨kb, 0, none⟩), .agg #[.int .i64 a, .int .i64 i, .int .i64 t], .slice A n cp] w (POut (20 + n) (pktAt (withLen (hj c a i t) (20 + n)) z) w) := by
  have HBd : Hid (∀ W : World, Row W W.heap.size A n (fun j => .int .u8 (z j)) → Calls Try.prog 79 #[.agg #[.int .i64 c.f0, .int .i64 c.f1, .int .i64 c.f2, .int .i64 c.f3, .int .i64 c.f4, .int .i64 a, .int .i64 i, .int .i64 t, .int .i64 0], .slice A n cp] W (BuildEnd (hj c a i t) z n W)) :=
    Lib.hid fun W hR => build_good (hj c a i t) A n cp z (by omega) hv W hR
  unfold BuildEnd at HBd
  have HK := Lib.hid h
  have HR := Lib.hid hr
  obtain ⟨Y, hY⟩ : ∃ Y, Y = pktAt (withLen (hj c a i t) (20 + n)) z := ⟨_, rfl⟩
  rw [← hY] at HBd ⊢
  obtain ⟨N, hN⟩ : ∃ N, N = 20 + n := ⟨_, rfl⟩
  rw [← hN] at HBd ⊢
  have hgl := h.lt
  clear h hr hv hY hN
  go_enter Try.func58, Try.ntmps58
  go_wp2
  obtain ⟨hb, hhb⟩ : ∃ hb, hb = w.heap.size := ⟨_, rfl⟩
  obtain ⟨W1, hW1⟩ : ∃ W1, W1 = w.alloc (.cells #[.int .i64 a, .int .i64 i, .int .i64 t] 57) := ⟨_, rfl⟩
  have K1 := Lib.hid (show KB W1 kb c by rw [hW1]; exact Blk.alloc HK.out _)
  have H1 := Lib.hid (show Blk W1 hb 57 #[.int .i64 a, .int .i64 i, .int .i64 t] by rw [hW1, hhb]; exact Blk.new _ _ _)
  have R1 := Lib.hid (show Row W1 W1.heap.size A n (fun j => .int .u8 (z j)) by rw [hW1]; exact row_new HR.out _)
  have B1 := Lib.hid (show Below w.heap.size w W1 by rw [hW1]; exact (Below.refl _ w).alloc (Nat.le_refl _) _)
  rw [← hW1, ← hhb]
  have HHB := Lib.hid hhb
  clear hW1 hhb
  have hkl := K1.out.lt
  have hhl := H1.out.lt
  obtain ⟨_, _, _, _, k4, k5, k6, k7, k8, _, _⟩ := K1.out.cells
  have a0 : W1.cell? ⟨hb, 0, none⟩ = some (.int .i64 a) := H1.out.cell 0
  have a1 : W1.cell? ⟨hb, 1, none⟩ = some (.int .i64 i) := H1.out.cell 1
  have a2 : W1.cell? ⟨hb, 2, none⟩ = some (.int .i64 t) := H1.out.cell 2
  go_region_held3 (fun w' => w'.cell? ⟨kb, 4, none⟩ = some (.int .i64 c.f0) ∧ w'.cell? ⟨kb, 5, none⟩ = some (.int .i64 c.f1) ∧ w'.cell? ⟨kb, 6, none⟩ = some (.int .i64 c.f2) ∧ w'.cell? ⟨kb, 7, none⟩ = some (.int .i64 c.f3) ∧ w'.cell? ⟨kb, 8, none⟩ = some (.int .i64 c.f4) ∧ w'.cell? ⟨hb, 0, none⟩ = some (.int .i64 a) ∧ w'.cell? ⟨hb, 1, none⟩ = some (.int .i64 i) ∧ w'.cell? ⟨hb, 2, none⟩ = some (.int .i64 t)) (go_keep) (first
    | (go_at_call 80; refine (join_ok c.f0 c.f1 c.f2 c.f3 c.f4 a i t 0 _).mono ?_; rintro e w2 ⟨rfl, b2⟩; have K2 := Lib.hid (show KB w2 kb c from Blk.below K1.out.drew b2 K1.out.lt); have H2 := Lib.hid (H1.out.drew.below b2 H1.out.lt); have R2 := Lib.hid (R1.out.drew.next b2); have B2 := Lib.hid (below_step B1.out.drew b2); clear b2; obtain ⟨_, _, _, _, d4, d5, d6, d7, d8, _, _⟩ := K2.out.cells; have e0 : w2.cell? ⟨hb, 0, none⟩ = some (.int .i64 a) := H2.out.cell 0; have e1 : w2.cell? ⟨hb, 1, none⟩ = some (.int .i64 i) := H2.out.cell 1; have e2 : w2.cell? ⟨hb, 2, none⟩ = some (.int .i64 t) := H2.out.cell 2)
    | (go_at_call 79; refine (HBd.out _ R2.out).mono ?_; rintro e w3 ⟨B, d, rfl, hd, ho, b3⟩; have K3 := Lib.hid (show KB w3 kb c from Blk.below K2.out b3 K2.out.lt); have H3 := Lib.hid (H2.out.below b3 H2.out.lt); have HO := Lib.hid ho; have HD := Lib.hid hd; have SZ := Lib.hid B2.out.size; have B3 := Lib.hid (below_step B2.out b3); clear b3 ho hd; obtain ⟨_, _, _, _, p4, p5, p6, p7, p8, _, _⟩ := K3.out.cells; have q0 : w3.cell? ⟨hb, 0, none⟩ = some (.int .i64 a) := H3.out.cell 0; have q1 : w3.cell? ⟨hb, 1, none⟩ = some (.int .i64 i) := H3.out.cell 1; have q2 : w3.cell? ⟨hb, 2, none⟩ = some (.int .i64 t) := H3.out.cell 2)
    | (go_at_call 78; refine (egot_ok _ _ _ _).mono ?_; rintro e w4 ⟨rfl, rfl⟩))
  go_wp2
  go_ret
  exact ⟨_, _, rfl, HD.out, (own_map_row (ownsRow_mono HO.out SZ.out)).1, (own_map_row HO.out).2, B3.out⟩

set_option maxRecDepth 100000 in
set_option maxHeartbeats 1600000 in
theorem eraw_ok (kp : Value) (A : Option Addr) (n cp : Nat) (z : Nat → Int) (hn : 1 ≤ n) (hm : n ≤ 9001) (hnc : n ≤ cp) (w : World) (hr : Row w w.heap.size A n (fun j => .int .u8 (z j))) :
    Calls Try.prog 37 #[kp, .slice A n cp] w (POut (n - 1) (fun j => z (1 + j)) w) := by
  obtain ⟨lb, lo, rfl, _, _⟩ := hr (by omega)
  obtain ⟨lo2, hsl, hlo⟩ := slice_from lb lo n cp 1 1 rfl hn hnc
  have HC := Lib.hid (clone_any (some ⟨lb, lo2, none⟩) (n - 1) (cp - 1) (fun j => z (1 + j)) w (by omega) (row_from hr hlo))
  have kw : IntKind.i64.wrap ((n : Int) - 1) = (n : Int) - 1 := IntWalk.i64_in _ (by omega)
  have k9 : (n : Int) - 1 ≤ 9000 := by omega
  have k8 : decide ((n : Int) - 1 ≤ 9000) = true := by simp; omega
  clear hr hlo
  go_enter Try.func37, Try.ntmps37
  go_wp2_with (first
    | (go_at_call 32; refine (emust_true 4 _).mono ?_; rintro e w1 ⟨rfl, rfl⟩)
    | (go_at_call 59; refine (HC.out).mono ?_; rintro e w2 ⟨B, d, rfl, hd, hR, hF, hB⟩))
  go_ret
  exact ⟨_, _, rfl, hd, hF, hR, hB⟩
theorem eraw_bad (kp : Value) (A : Option Addr) (n cp : Nat) (hm : 9001 < n) (hx : n ≤ maxLen) (w : World) :
    Calls Try.prog 37 #[kp, .slice A n cp] w fun e w' => e = errno 4 ∧ w' = w := by
  unfold maxLen at hx
  have kw : IntKind.i64.wrap ((n : Int) - 1) = (n : Int) - 1 := IntWalk.i64_in _ (by omega)
  have k9 : ¬ (n : Int) - 1 ≤ 9000 := by omega
  have k8 : decide ((n : Int) - 1 ≤ 9000) = false := by simp; omega
  go_enter Try.func37, Try.ntmps37
  go_wp2_with (go_at_call 32; refine (emust_false 4 _).mono ?_; rintro e w1 ⟨rfl, rfl⟩)
  exact ⟨rfl, rfl, rfl⟩
end Go.Proofs.Ytofaghpflmeblaa
namespace Go.Proofs.Ytofaghpflmeblaa
open Go.RowKit
set_option linter.unusedVariables false

attribute [local go_sem ↓] Go.wp_at_zero Go.wp_at_succ

/-- a context's anchor moved by a compact header -/
def coT' (c : Ec) (z : Nat → Int) : Int := (c.time + z 2 * c.step) % 16777216
def coI' (c : Ec) (z : Nat → Int) : Int := (c.ident + z 2) % 65536
/-- the packet behind a compact header -/
def compactY (c : Ec) (n : Nat) (z : Nat → Int) : Nat → Int := pktAt (withLen (hj c c.hops (coI' c z) (coT' c z)) (20 + ((n - 3 : Nat) : Int))) (fun j => z (3 + j))
theorem acErr_good {c : Ec} {n k : Nat} {z : Nat → Int} {g : Int} (h : acErr c n z k g = 0) : z 2 ≠ 0 ∧ (n : Int) - (k : Int) ≤ 8980 ∧ c.valid = true ∧ z 1 = g := by
  unfold acErr at h
  by_cases h2 : z 2 = 0
  · rw [if_pos h2] at h; cases h
  · rw [if_neg h2] at h
    by_cases h8 : 8980 < (n : Int) - (k : Int)
    · rw [if_pos h8] at h; cases h
    · rw [if_neg h8] at h
      by_cases h3 : c.valid = true ∧ z 1 = g
      · exact ⟨h2, by omega, h3⟩
      · rw [if_neg h3] at h; cases h

set_option maxRecDepth 100000 in
set_option maxHeartbeats 1600000 in
theorem ecompact_bad (kb : Nat) (c : Ec) (A : Option Addr) (n cp : Nat) (z : Nat → Int) (x : Int) (hn : 3 ≤ n) (hm : n ≤ maxLen) (hz : ∀ j, j < n → 0 ≤ z j ∧ z j < 256) (hx : acErr c n z 3 c.gen = x) (h0 : x ≠ 0) (w : World) (h : KB w kb c) (hr : Row w w.heap.size A n (fun j => .int .u8 (z j))) :
    Calls Try.prog 36 #[.pointer (some ⟨kb, 0, none⟩), .slice A n cp] w fun e w' => e = errno x ∧ w' = w := by
  have HA := Lib.hid (accepts_ok kb c A n cp z 3 c.gen (by omega) hm (by decide) hz w h hr)
  rw [hx] at HA
  unfold acEnd at HA
  rw [if_neg h0] at HA
  have k9 := h.cells.2.2.2.2.2.2.2.2.2.1
  clear hz hx h hr
  go_enter Try.func36, Try.ntmps36
  go_wp2_with (go_at_call 55; refine (HA.out).mono ?_; rintro e w1 ⟨rfl, rfl⟩)
  exact ⟨rfl, rfl, rfl⟩

set_option maxRecDepth 100000 in
set_option maxHeartbeats 1600000 in
theorem ecompact_ok (kb : Nat) (c : Ec) (A : Option Addr) (n cp : Nat) (z : Nat → Int) (hn : 3 ≤ n) (hnc : n ≤ cp) (hz : ∀ j, j < n → 0 ≤ z j ∧ z j < 256) (hx : acErr c n z 3 c.gen = 0) (hok : c.Ok) (w : World) (h : KB w kb c) (hr : Row w w.heap.size A n (fun j => .int .u8 (z j))) :
    Calls Try.prog 36 #[.pointer (some ⟨kb, 0, none⟩), .slice A n cp] w (POut (20 + (n - 3)) (compactY c n z) w) := by
  obtain ⟨hz2, hn8, _, _⟩ := acErr_good hx
  have HA := Lib.hid (accepts_ok kb c A n cp z 3 c.gen (by omega) (by unfold maxLen; omega) (by decide) hz w h hr)
  rw [hx] at HA
  unfold acEnd at HA
  rw [if_pos rfl] at HA
  obtain ⟨lb, lo, rfl, hlb, hc⟩ := hr (by omega)
  obtain ⟨lo2, hsl, hlo⟩ := slice_from lb lo n cp 3 3 rfl hn hnc
  have HRF := Lib.hid (row_from hr hlo)
  have b2 := hz 2 (by omega)
  have c2 : w.cell? ⟨lb, lo + 2, none⟩ = some (.int .u8 (z 2)) := hc 2 (by omega)
  have HV := Lib.hid (hj_valid c c.hops (coI' c z) (coT' c z) (n - 3) hok hok.hops (by unfold coI'; omega) (by unfold coT'; omega) (by omega))
  have oi := hok.ident
  have ot := hok.time
  have os := hok.step
  have HK := Lib.hid h
  obtain ⟨k0, k1, k2, k3, k4, k5, k6, k7, k8, k9, k10⟩ := h.cells
  have HY := Lib.hid (show compactY c n z = pktAt (withLen (hj c c.hops ((c.ident + z 2) % 65536) ((c.time + z 2 * c.step) % 16777216)) (20 + ((n - 3 : Nat) : Int))) (fun j => z (3 + j)) from rfl)
  have HV2 : Hid (validB (withLen (hj c c.hops ((c.ident + z 2) % 65536) ((c.time + z 2 * c.step) % 16777216)) (20 + ((n - 3 : Nat) : Int))) = true) := HV
  obtain ⟨x2, hx2⟩ : ∃ x, x = z 2 := ⟨_, rfl⟩
  rw [← hx2] at c2 b2 hz2 HY HV2
  have p0 : 0 ≤ x2 * c.step := Int.mul_nonneg b2.1 os.1
  have p1 : x2 * c.step ≤ 256 * 65536 := Int.mul_le_mul (by omega) (by omega) os.1 (by decide)
  obtain ⟨p, hp⟩ : ∃ p, p = x2 * c.step := ⟨_, rfl⟩
  rw [← hp] at HY HV2 p0 p1
  have kw : IntKind.i64.wrap (x2 * c.step) = p := by rw [← hp]; exact IntWalk.i64_in _ (by omega)
  have w1 : IntKind.i64.wrap (c.ident + x2) = c.ident + x2 := IntWalk.i64_in _ (by omega)
  have w2 : IntKind.i64.wrap (c.time + p) = c.time + p := IntWalk.i64_in _ (by omega)
  have HM := Lib.hid (fun W => moved_ok c.hops c.ident c.time x2 p W w1 w2)
  have HP := Lib.hid (fun W hK hR => epacket_ok kb c c.hops ((c.ident + x2) % 65536) ((c.time + p) % 16777216) (some ⟨lb, lo2, none⟩) (n - 3) (cp - 3) (fun j => z (3 + j)) (by omega) HV2.out W hK hR)
  rw [← HY.out] at HP
  obtain ⟨Y, hY⟩ : ∃ Y, Y = compactY c n z := ⟨_, rfl⟩
  rw [← hY] at HP ⊢
  have hkl := h.lt
  have i2 : (2 : Int) < (n : Int) := by omega
  have i3 : (3 : Int) ≤ (n : Int) := by omega
  have xw : IntKind.i64.wrap x2 = x2 := IntWalk.i64_in _ (by omega)
  clear hz hx h hr hlo HV HV2 HY hY hp w1 w2 hx2 hc hok
  go_enter Try.func36, Try.ntmps36
  go_wp2_with (go_at_call 55; refine (HA.out).mono ?_; rintro e w1 ⟨rfl, rfl⟩)
  go_region_held3 (fun w' => w'.cell? ⟨kb, 0, none⟩ = some (.int .i64 c.hops) ∧ w'.cell? ⟨kb, 1, none⟩ = some (.int .i64 c.ident) ∧ w'.cell? ⟨kb, 2, none⟩ = some (.int .i64 c.time) ∧ w'.cell? ⟨kb, 10, none⟩ = some (.int .i64 c.step)) (go_keep) (first
    | (go_at_call 57; refine (HM.out _).mono ?_; rintro e w2 ⟨rfl, b2⟩; have K2 := Lib.hid (show KB w2 kb c from Blk.below (Blk.drew HK.out) b2 hkl); have R2 := Lib.hid (HRF.out.drew.next b2); have B2 := Lib.hid (below_step (Below.refl _ w1).drew b2); clear b2; obtain ⟨d0, d1, d2, _, _, _, _, _, _, _, d10⟩ := K2.out.cells)
    | (go_at_call 58; refine (HP.out _ K2.out R2.out).mono ?_; rintro e w3 ⟨B, d, rfl, hd, hF, hR, b3⟩; have K3 := Lib.hid (show KB w3 kb c from Blk.below K2.out b3 K2.out.lt); have HD := Lib.hid hd; have HF := Lib.hid hF; have HR3 := Lib.hid hR; have SZ := Lib.hid B2.out.size; have B3 := Lib.hid (below_step B2.out b3); clear b3 hd hF hR; obtain ⟨p0', p1', p2', _, _, _, _, _, _, _, p10'⟩ := K3.out.cells))
  go_wp2
  go_ret
  exact ⟨_, _, rfl, HD.out, (fun a e => Nat.le_trans SZ.out (HF.out a e)), HR3.out, B3.out⟩
end Go.Proofs.Ytofaghpflmeblaa
namespace Go.Proofs.Ytofaghpflmeblaa
open Go.RowKit
set_option linter.unusedVariables false

attribute [local go_sem ↓] Go.wp_at_zero Go.wp_at_succ

/-- bytes are handed back in new memory, the context kb is left as c -/
def KOut (len : Nat) (y : Nat → Int) (kb : Nat) (c : Ec) (w : World) (e : Ending) (w' : World) : Prop :=
  ∃ B d, e = .returned (.slice B len d) ∧ len ≤ d ∧ Fresh w.heap.size B ∧ Row w' w'.heap.size B len (fun j => .int .u8 (y j)) ∧ KB w' kb c ∧ Keep1 kb w w'
/-- the packet behind a delta header -/
def deltaY (c : Ec) (n : Nat) (z : Nat → Int) : Nat → Int := pktAt (withLen (hj (deltaC c z) (deltaC c z).hops (deltaC c z).ident (deltaC c z).time) (20 + ((n - 6 : Nat) : Int))) (fun j => z (6 + j))
theorem wp_world {P : Program} {c : Code} {Q : Exit → Act → World → Prop} {a : Act} {w : World} (R : World → Prop) (h : R w) (k : ∀ w', R w' → c.wp P Q a w') : c.wp P Q a w := k w h
theorem then_world {K : Act → World → Prop} {Q : Exit → Act → World → Prop} {a : Act} {w : World} (R : World → Prop) (h : R w) (k : ∀ w', R w' → Exit.then K Q .normal a w') : Exit.then K Q .normal a w := k w h
theorem or_two (x y : Int) (hx : 0 ≤ x ∧ x < 256) (hy : 0 ≤ y ∧ y < 256) : bits .or .i64 (x * 256) y = 256 * x + y := by
  obtain ⟨a, rfl⟩ := Int.eq_ofNat_of_zero_le hx.1
  obtain ⟨b, rfl⟩ := Int.eq_ofNat_of_zero_le hy.1
  have e1 : (((a : Int) * 256) % ((2 ^ 64 : Nat) : Int)).toNat = a * 2 ^ 8 := by omega
  have e2 : ((b : Int) % ((2 ^ 64 : Nat) : Int)).toNat = b := by omega
  have key : (BitVec.ofInt 64 ((a : Int) * 256) ||| BitVec.ofInt 64 (b : Int)).toNat = a * 2 ^ 8 + b := by
    rw [BitVec.toNat_or, BitVec.toNat_ofInt, BitVec.toNat_ofInt, e1, e2, or_shift _ _ _ (by omega)]
  show IntKind.i64.wrap ((BitVec.ofInt 64 ((a : Int) * 256) ||| BitVec.ofInt 64 (b : Int)).toNat : Nat) = _
  rw [key, IntKind.wrap_i64]
  omega

set_option maxRecDepth 100000 in
set_option maxHeartbeats 1600000 in
theorem edelta_bad (kb : Nat) (c : Ec) (A : Option Addr) (n cp : Nat) (z : Nat → Int) (x : Int) (hn : 6 ≤ n) (hm : n ≤ maxLen) (hz : ∀ j, j < n → 0 ≤ z j ∧ z j < 256) (hx : acErr c n z 6 ((c.gen + 1) % 256) = x) (h0 : x ≠ 0) (w : World) (h : KB w kb c) (hr : Row w w.heap.size A n (fun j => .int .u8 (z j))) :
    Calls Try.prog 35 #[.pointer (some ⟨kb, 0, none⟩), .slice A n cp] w fun e w' => e = errno x ∧ w' = w := by
  have HA := Lib.hid (accepts_ok kb c A n cp z 6 ((c.gen + 1) % 256) (by omega) hm (by decide) hz w h hr)
  rw [hx] at HA
  unfold acEnd at HA
  rw [if_neg h0] at HA
  have k9 := h.cells.2.2.2.2.2.2.2.2.2.1
  have gw : IntKind.u8.wrap (c.gen + 1) = (c.gen + 1) % 256 := by rw [IntKind.wrap_u8]
  clear hz hx h hr
  go_enter Try.func35, Try.ntmps35
  go_wp2_with (go_at_call 55; refine (HA.out).mono ?_; rintro e w1 ⟨rfl, rfl⟩)
  exact ⟨rfl, rfl, rfl⟩

set_option maxRecDepth 100000 in
set_option maxHeartbeats 1600000 in
theorem edelta_ok (kb lb lo : Nat) (c : Ec) (n cp : Nat) (z : Nat → Int) (hn : 6 ≤ n) (hnc : n ≤ cp) (hz : ∀ j, j < n → 0 ≤ z j ∧ z j < 256) (hx : acErr c n z 6 ((c.gen + 1) % 256) = 0) (hok : c.Ok) (hlk : lb ≠ kb) (w : World) (h : KB w kb c) (hr : Row w w.heap.size (some ⟨lb, lo, none⟩) n (fun j => .int .u8 (z j))) :
    Calls Try.prog 35 #[.pointer (some ⟨kb, 0, none⟩), .slice (some ⟨lb, lo, none⟩) n cp] w (KOut (20 + (n - 6)) (deltaY c n z) kb (deltaC c z) w) := by
  obtain ⟨hz2, hn8, _, _⟩ := acErr_good hx
  have HA := Lib.hid (accepts_ok kb c _ n cp z 6 ((c.gen + 1) % 256) (by omega) (by unfold maxLen; omega) (by decide) hz w h hr)
  rw [hx] at HA
  unfold acEnd at HA
  rw [if_pos rfl] at HA
  obtain ⟨lb', lo', hab, hlb, hc⟩ := hr (by omega)
  cases hab
  obtain ⟨lo2, hsl, hlo⟩ := slice_from lb lo n cp 6 6 rfl hn hnc
  have HRF := Lib.hid (row_from hr hlo)
  have HR := Lib.hid hr
  have b1 := hz 1 (by omega)
  have b2 := hz 2 (by omega)
  have b3 := hz 3 (by omega)
  have b4 := hz 4 (by omega)
  have b5 := hz 5 (by omega)
  have c1 : w.cell? ⟨lb, lo + 1, none⟩ = some (.int .u8 (z 1)) := hc 1 (by omega)
  have c2 : w.cell? ⟨lb, lo + 2, none⟩ = some (.int .u8 (z 2)) := hc 2 (by omega)
  have c3 : w.cell? ⟨lb, lo + 3, none⟩ = some (.int .u8 (z 3)) := hc 3 (by omega)
  have c4 : w.cell? ⟨lb, lo + 4, none⟩ = some (.int .u8 (z 4)) := hc 4 (by omega)
  have c5 : w.cell? ⟨lb, lo + 5, none⟩ = some (.int .u8 (z 5)) := hc 5 (by omega)
  have HDO := Lib.hid (deltaC_ok c z hok b1 (by omega) b3 b4 b5)
  have HV := Lib.hid (hj_valid (deltaC c z) (deltaC c z).hops (deltaC c z).ident (deltaC c z).time (n - 6) HDO.out HDO.out.hops HDO.out.ident HDO.out.time (by omega))
  have oi := hok.ident
  have ot := hok.time
  have HK := Lib.hid h
  obtain ⟨k0, k1, k2, k3, k4, k5, k6, k7, k8, k9, k10⟩ := h.cells
  have HD : Hid (deltaC c z = { c with hops := z 5, ident := (c.ident + z 2) % 65536, time := (c.time + (256 * z 3 + z 4)) % 16777216, gen := z 1, step := (256 * z 3 + z 4) / z 2 }) := Lib.hid rfl
  have HY := Lib.hid (show deltaY c n z = pktAt (withLen (hj (deltaC c z) (deltaC c z).hops (deltaC c z).ident (deltaC c z).time) (20 + ((n - 6 : Nat) : Int))) (fun j => z (6 + j)) from rfl)
  obtain ⟨d, hd⟩ : ∃ d, d = deltaC c z := ⟨_, rfl⟩
  rw [← hd] at HV HD HY ⊢
  have HP := Lib.hid (fun W hK hR => epacket_ok kb d d.hops d.ident d.time (some ⟨lb, lo2, none⟩) (n - 6) (cp - 6) (fun j => z (6 + j)) (by omega) HV.out W hK hR)
  rw [← HY.out] at HP
  obtain ⟨Y, hY⟩ : ∃ Y, Y = deltaY c n z := ⟨_, rfl⟩
  rw [← hY] at HP ⊢
  obtain ⟨x1, hx1⟩ : ∃ x, x = z 1 := ⟨_, rfl⟩
  obtain ⟨x2, hx2⟩ : ∃ x, x = z 2 := ⟨_, rfl⟩
  obtain ⟨x3, hx3⟩ : ∃ x, x = z 3 := ⟨_, rfl⟩
  obtain ⟨x4, hx4⟩ : ∃ x, x = z 4 := ⟨_, rfl⟩
  obtain ⟨x5, hx5⟩ : ∃ x, x = z 5 := ⟨_, rfl⟩
  rw [← hx1] at c1 b1 HD
  rw [← hx2] at c2 b2 HD hz2
  rw [← hx3] at c3 b3 HD
  rw [← hx4] at c4 b4 HD
  rw [← hx5] at c5 b5 HD
  have xw2 : IntKind.i64.wrap x2 = x2 := IntWalk.i64_in _ (by omega)
  have xw3 : IntKind.i64.wrap x3 = x3 := IntWalk.i64_in _ (by omega)
  have xw4 : IntKind.i64.wrap x4 = x4 := IntWalk.i64_in _ (by omega)
  have xw5 : IntKind.i64.wrap x5 = x5 := IntWalk.i64_in _ (by omega)
  have xw6 : IntKind.i64.wrap (x3 * 256) = x3 * 256 := IntWalk.i64_in _ (by omega)
  have xor := or_two x3 x4 b3 b4
  obtain ⟨t, ht⟩ : ∃ t, t = 256 * x3 + x4 := ⟨_, rfl⟩
  rw [← ht] at HD xor
  have t0 : 0 ≤ t ∧ t < 65536 := by omega
  have w1 : IntKind.i64.wrap (c.ident + x2) = c.ident + x2 := IntWalk.i64_in _ (by omega)
  have w2 : IntKind.i64.wrap (c.time + t) = c.time + t := IntWalk.i64_in _ (by omega)
  have q0 : 0 ≤ t / x2 := Int.ediv_nonneg t0.1 (by omega)
  have q1 : t / x2 ≤ t := Int.ediv_le_self _ t0.1
  have tq : t.tdiv x2 = t / x2 := Int.tdiv_eq_ediv_of_nonneg t0.1
  have tw : IntKind.i64.wrap (t / x2) = t / x2 := IntWalk.i64_in _ (by omega)
  have h2e : (x2 == 0) = false := by simpa using hz2
  have HM := Lib.hid (fun W => moved_ok c.hops c.ident c.time x2 t W w1 w2)
  have hkl := h.lt
  have gw : IntKind.u8.wrap (c.gen + 1) = (c.gen + 1) % 256 := by rw [IntKind.wrap_u8]
  have i1 : (1 : Int) < (n : Int) := by omega
  have i2 : (2 : Int) < (n : Int) := by omega
  have i3 : (3 : Int) < (n : Int) := by omega
  have i4 : (4 : Int) < (n : Int) := by omega
  have i5 : (5 : Int) < (n : Int) := by omega
  clear hz hx h hr hlo HV HY hY w1 w2 hx1 hx2 hx3 hx4 hx5 hc hd ht
  go_enter Try.func35, Try.ntmps35
  go_wp2_with (go_at_call 55; refine (HA.out).mono ?_; rintro e w1 ⟨rfl, rfl⟩)
  go_quiet (fail)
  go_wp2
  refine wp_world (fun W => Below w1.heap.size w1 W) (below_drewN (Below.refl _ _) _) ?_
  intro wd hwd
  obtain ⟨w0, hw0⟩ : ∃ w0, w0 = wd.drew := ⟨_, rfl⟩
  have B0 := Lib.hid (show Below w1.heap.size w1 w0 by rw [hw0]; exact hwd.drew)
  have hb0 : Keep1 kb w1 w0 := keep_of_below B0.out
  have K0 := Lib.hid (show KB w0 kb c from Blk.below HK.out B0.out hkl)
  have R0 := Lib.hid (show Row w0 w0.heap.size (some ⟨lb, lo, none⟩) n (fun j => .int .u8 (z j)) from Row.next HR.out B0.out)
  have HS1 := Lib.hid (show ∀ W, Keep1 kb w1 W → W.cell? ⟨lb, lo + 1, none⟩ = some (.int .u8 x1) from fun W hW => (World.cell?_of_block (hW.block lb hlb (fun e => by cases e; exact hlk rfl))).trans c1)
  refine wp_region_held_drew (S := fun w' => Keep1 kb w1 w') (by kernel_rfl) (by rw [← hw0]; exact hb0) (fun hHeld => ?_)
  rw [← hw0]
  clear hw0 hHeld hwd
  have hHeld := hb0
  refine wpAnyH_take (i := 0) (oi := ⟨some 29, _, _, _, _, _⟩) (v := .pointer (some ⟨kb, 0, none⟩)) rfl (by kernel_rfl) (by kernel_rfl) (by kernel_rfl) (fun _ _ _ h => h) (Or.inl ⟨by rfl, fun W hW => (by rfl)⟩) (by assumption) ?_
  try simp only [Act.put, List.setIfInBounds_toArray, List.set_cons_zero, List.set_cons_succ]
  refine wpAnyH_take (i := 1) (oi := ⟨some 30, _, _, _, _, _⟩) (v := .pointer (some ⟨kb, 0, none⟩)) rfl (by kernel_rfl) (by kernel_rfl) (by kernel_rfl) (fun _ _ _ h => h) (Or.inl ⟨by rfl, fun W hW => (by rfl)⟩) (by assumption) ?_
  try simp only [Act.put, List.setIfInBounds_toArray, List.set_cons_zero, List.set_cons_succ]
  refine wpAnyH_take (i := 2) (oi := ⟨some 31, _, _, _, _, _⟩) (v := .pointer (some ⟨kb, 0, none⟩)) rfl (by kernel_rfl) (by kernel_rfl) (by kernel_rfl) (fun _ _ _ h => h) (Or.inl ⟨by rfl, fun W hW => (by rfl)⟩) (by assumption) ?_
  try simp only [Act.put, List.setIfInBounds_toArray, List.set_cons_zero, List.set_cons_succ]
  refine wpAnyH_take (i := 3) (oi := ⟨some 32, _, _, _, _, _⟩) (v := .pointer (some ⟨kb, 0, none⟩)) rfl (by kernel_rfl) (by kernel_rfl) (by kernel_rfl) (fun _ _ _ h => h) (Or.inl ⟨by rfl, fun W hW => (by rfl)⟩) (by assumption) ?_
  try simp only [Act.put, List.setIfInBounds_toArray, List.set_cons_zero, List.set_cons_succ]
  refine wpAnyH_take (i := 4) (oi := ⟨some 33, _, _, _, _, _⟩) (v := .pointer (some ⟨kb, 0, none⟩)) rfl (by kernel_rfl) (by kernel_rfl) (by kernel_rfl) (fun _ _ _ h => h) (Or.inl ⟨by rfl, fun W hW => (by go_simp)⟩) (by assumption) ?_
  try simp only [Act.put, List.setIfInBounds_toArray, List.set_cons_zero, List.set_cons_succ]
  refine wpAnyH_take (i := 5) (oi := ⟨some 34, _, _, _, _, _⟩) (v := .pointer (some ⟨kb, 0, none⟩)) rfl (by kernel_rfl) (by kernel_rfl) (by kernel_rfl) (fun _ _ _ h => h) (Or.inl ⟨by rfl, fun W hW => (by go_simp)⟩) (by assumption) ?_
  try simp only [Act.put, List.setIfInBounds_toArray, List.set_cons_zero, List.set_cons_succ]
  refine wpAnyH_take (i := 7) (oi := ⟨some 36, _, _, _, _, _⟩) (v := .int .i64 x2) rfl (by kernel_rfl) (by kernel_rfl) (by kernel_rfl) (fun _ _ _ h => h) (Or.inl ⟨by rfl, fun W hW => (by rfl)⟩) (by assumption) ?_
  try simp only [Act.put, List.setIfInBounds_toArray, List.set_cons_zero, List.set_cons_succ]
  refine wpAnyH_take (i := 8) (oi := ⟨some 37, _, _, _, _, _⟩) (v := .int .i64 t) rfl (by kernel_rfl) (by kernel_rfl) (by kernel_rfl) (fun _ _ _ h => h) (Or.inl ⟨by rfl, fun W hW => (by rfl)⟩) (by assumption) ?_
  try simp only [Act.put, List.setIfInBounds_toArray, List.set_cons_zero, List.set_cons_succ]
  refine wpAnyH_take (i := 10) (oi := ⟨some 39, _, _, _, _, _⟩) (v := .slice (some ⟨lb, lo, none⟩) n cp) rfl (by kernel_rfl) (by kernel_rfl) (by kernel_rfl) (fun _ _ _ h => h) (Or.inl ⟨by rfl, fun W hW => (by rfl)⟩) (by assumption) ?_
  try simp only [Act.put, List.setIfInBounds_toArray, List.set_cons_zero, List.set_cons_succ]
  refine wpAnyH_take (i := 11) (oi := ⟨some 40, _, _, _, _, _⟩) (v := .pointer (some ⟨lb, lo + 1, none⟩)) rfl (by kernel_rfl) (by kernel_rfl) (by kernel_rfl) (fun _ _ _ h => h) (Or.inl ⟨by rfl, fun W hW => (by go_simp)⟩) (by assumption) ?_
  try simp only [Act.put, List.setIfInBounds_toArray, List.set_cons_zero, List.set_cons_succ]
  refine wpAnyH_take (i := 12) (oi := ⟨some 41, _, _, _, _, _⟩) (v := .int .u8 x1) rfl (by kernel_rfl) (by kernel_rfl) (by kernel_rfl) (fun _ _ _ h => h) (Or.inl ⟨by rfl, fun W hW => (by have q := HS1.out W hW; go_simp)⟩) (by assumption) ?_
  try simp only [Act.put, List.setIfInBounds_toArray, List.set_cons_zero, List.set_cons_succ]
  refine wpAnyH_take (i := 13) (oi := ⟨some 42, _, _, _, _, _⟩) (v := .int .i64 t) rfl (by kernel_rfl) (by kernel_rfl) (by kernel_rfl) (fun _ _ _ h => h) (Or.inl ⟨by rfl, fun W hW => (by rfl)⟩) (by assumption) ?_
  try simp only [Act.put, List.setIfInBounds_toArray, List.set_cons_zero, List.set_cons_succ]
  refine wpAnyH_take (i := 14) (oi := ⟨some 43, _, _, _, _, _⟩) (v := .int .i64 x2) rfl (by kernel_rfl) (by kernel_rfl) (by kernel_rfl) (fun _ _ _ h => h) (Or.inl ⟨by rfl, fun W hW => (by rfl)⟩) (by assumption) ?_
  try simp only [Act.put, List.setIfInBounds_toArray, List.set_cons_zero, List.set_cons_succ]
  refine wpAnyH_take (i := 15) (oi := ⟨some 44, _, _, _, _, _⟩) (v := .int .i64 (t / x2)) rfl (by kernel_rfl) (by kernel_rfl) (by kernel_rfl) (fun _ _ _ h => h) (Or.inl ⟨by rfl, fun W hW => (by go_simp)⟩) (by assumption) ?_
  try simp only [Act.put, List.setIfInBounds_toArray, List.set_cons_zero, List.set_cons_succ]
  clear c1 c2 c3 c4 k0 k1 k2 k3 k4 k5 k6 k7 k8 k9 k10
  obtain ⟨k0, k1, k2, _, _, _, _, _, _, k9, k10⟩ := K0.out.cells
  refine wpAnyH_ready (rs := [6]) (by kernel_rfl) (by simp) ?_
  refine AllReadyH.cons (o := ⟨some 35, _, _, _, _, _⟩) rfl (fun K hK => ?_) AllReadyH.nil
  rw [if_pos (by rfl)]
  go_simp
  refine hK.out _ _ hHeld (fun hHeld => ?_)
  clear hK K
  try simp only [Act.put, List.setIfInBounds_toArray, List.set_cons_zero, List.set_cons_succ]
  refine wpAnyH_ready (rs := [9]) (by kernel_rfl) (by simp) ?_
  refine AllReadyH.cons (o := ⟨some 38, _, _, _, _, _⟩) rfl (fun K hK => ?_) AllReadyH.nil
  rw [if_pos (by rfl)]
  go_simp
  refine (HM.out w0).mono ?_
  rintro e w2 ⟨rfl, b2⟩
  dsimp only
  have K2 := Lib.hid (show KB w2 kb c from Blk.below K0.out b2 K0.out.lt)
  have R2 := Lib.hid (show Row w2 w2.heap.size (some ⟨lb, lo, none⟩) n (fun j => .int .u8 (z j)) from Row.next R0.out b2)
  have E2 := Lib.hid (show Keep1 kb w1 w2 from Keep1.trans hb0 (keep_of_below b2))
  refine hK.out _ _ E2.out (fun hHeld => ?_)
  clear hK K b2
  try simp only [Act.put, List.setIfInBounds_toArray, List.set_cons_zero, List.set_cons_succ]
  clear k0 k1 k2 k9 k10
  obtain ⟨k0, k1, k2, _, _, _, _, _, _, k9, k10⟩ := K2.out.cells
  have f0 := Blk.frozen K2.out 0
  have f1 := Blk.frozen K2.out 1
  have f2 := Blk.frozen K2.out 2
  have f9 := Blk.frozen K2.out 9
  have f10 := Blk.frozen K2.out 10
  refine wpAnyH_take (i := 16) (oi := ⟨some 45, _, _, _, _, _⟩) (v := .pointer (some ⟨kb, 0, none⟩)) rfl (by kernel_rfl) (by kernel_rfl) (by kernel_rfl) (fun _ _ _ h => h) (Or.inl ⟨by rfl, fun W hW => (by go_simp)⟩) (by assumption) ?_
  try simp only [Act.put, List.setIfInBounds_toArray, List.set_cons_zero, List.set_cons_succ]
  refine wpAnyH_take (i := 17) (oi := ⟨some 46, _, _, _, _, _⟩) (v := .pointer (some ⟨kb, 0, none⟩)) rfl (by kernel_rfl) (by kernel_rfl) (by kernel_rfl) (fun _ _ _ h => h) (Or.inl ⟨by rfl, fun W hW => (by go_simp)⟩) (by assumption) ?_
  try simp only [Act.put, List.setIfInBounds_toArray, List.set_cons_zero, List.set_cons_succ]
  refine wpAnyH_ready (rs := [18]) (by kernel_rfl) (by simp) ?_
  refine AllReadyH.cons (o := ⟨none, _, _, _, _, _⟩) rfl (fun K hK => ?_) AllReadyH.nil
  rw [if_pos (by rfl)]
  go_simp
  refine hK.out _ _ (grownBy_set (grownBy_set (grownBy_set E2.out _ _) _ _) _ _) (fun hHeld => ?_)
  clear hK K
  try simp only [Act.put, List.setIfInBounds_toArray, List.set_cons_zero, List.set_cons_succ]
  refine wpAnyH_take (i := 19) (oi := ⟨some 47, _, _, _, _, _⟩) (v := .pointer (some ⟨kb, 0, none⟩)) rfl (by kernel_rfl) (by kernel_rfl) (by kernel_rfl) (fun _ _ _ h => h) (Or.inl ⟨by rfl, fun W hW => (by go_simp)⟩) (by assumption) ?_
  try simp only [Act.put, List.setIfInBounds_toArray, List.set_cons_zero, List.set_cons_succ]
  refine wpAnyH_take (i := 20) (oi := ⟨some 48, _, _, _, _, _⟩) (v := .pointer (some ⟨kb, 9, none⟩)) rfl (by kernel_rfl) (by kernel_rfl) (by kernel_rfl) (fun _ _ _ h => h) (Or.inl ⟨by rfl, fun W hW => (by go_simp)⟩) (by assumption) ?_
  try simp only [Act.put, List.setIfInBounds_toArray, List.set_cons_zero, List.set_cons_succ]
  refine wpAnyH_ready (rs := [21]) (by kernel_rfl) (by simp) ?_
  refine AllReadyH.cons (o := ⟨none, _, _, _, _, _⟩) rfl (fun K hK => ?_) AllReadyH.nil
  rw [if_pos (by rfl)]
  go_simp
  refine hK.out _ _ (grownBy_set hHeld _ _) (fun hHeld => ?_)
  clear hK K
  try simp only [Act.put, List.setIfInBounds_toArray, List.set_cons_zero, List.set_cons_succ]
  refine wpAnyH_take (i := 22) (oi := ⟨some 49, _, _, _, _, _⟩) (v := .pointer (some ⟨kb, 0, none⟩)) rfl (by kernel_rfl) (by kernel_rfl) (by kernel_rfl) (fun _ _ _ h => h) (Or.inl ⟨by rfl, fun W hW => (by go_simp)⟩) (by assumption) ?_
  try simp only [Act.put, List.setIfInBounds_toArray, List.set_cons_zero, List.set_cons_succ]
  refine wpAnyH_take (i := 23) (oi := ⟨some 50, _, _, _, _, _⟩) (v := .pointer (some ⟨kb, 10, none⟩)) rfl (by kernel_rfl) (by kernel_rfl) (by kernel_rfl) (fun _ _ _ h => h) (Or.inl ⟨by rfl, fun W hW => (by go_simp)⟩) (by assumption) ?_
  try simp only [Act.put, List.setIfInBounds_toArray, List.set_cons_zero, List.set_cons_succ]
  refine wpAnyH_ready (rs := [24]) (by kernel_rfl) (by simp) ?_
  refine AllReadyH.cons (o := ⟨none, _, _, _, _, _⟩) rfl (fun K hK => ?_) AllReadyH.nil
  rw [if_pos (by rfl)]
  go_simp
  refine hK.out _ _ (grownBy_set hHeld _ _) (fun hHeld => ?_)
  clear hK K
  try simp only [Act.put, List.setIfInBounds_toArray, List.set_cons_zero, List.set_cons_succ]
  refine wpAnyH_done (by kernel_rfl) ?_ _

  refine then_world (fun W => KB W kb { c with ident := (c.ident + x2) % 65536, time := (c.time + t) % 16777216, gen := x1, step := t / x2 } ∧ Keep1 kb w1 W) ⟨?_, hHeld⟩ ?_
  · exact ((((Blk.set_ K2.out 0 _).set_ 1 _).set_ 2 _).set_ 9 _).set_ 10 _
  rintro W3 ⟨k3', e3⟩
  have K3 := Lib.hid k3'
  have E3 := Lib.hid e3
  clear k3' e3 hHeld k0 k1 k2 k9 k10 f0 f1 f2 f9 f10
  obtain ⟨k0, _, _, _, _, _, _, _, _, _, _⟩ := K3.out.cells
  have f0 := Blk.frozen K3.out 0
  have c5' : W3.cell? ⟨lb, lo + 5, none⟩ = some (.int .u8 x5) := (World.cell?_of_block (E3.out.block lb hlb (fun e => by cases e; exact hlk rfl))).trans c5
  go_wp2
  refine wp_world (fun W => KB W kb d ∧ Keep1 kb w1 W) ⟨?_, grownBy_set E3.out _ _⟩ ?_
  · rw [HD.out]; exact Blk.set_ K3.out 0 _
  rintro W4 ⟨k4', e4⟩
  have K4 := Lib.hid k4'
  have E4 := Lib.hid e4
  clear k4' e4 k0 f0 c5'
  obtain ⟨k0, k1, k2, _, _, _, _, _, _, _, _⟩ := K4.out.cells
  have R4 := Lib.hid (show Row W4 W4.heap.size (some ⟨lb, lo2, none⟩) (n - 6) (fun j => .int .u8 (z (6 + j))) from (E4.out.row HRF.out (Nat.le_refl _) (fun a e => by cases e; exact hlk)).more E4.out.size)
  go_region_held3 (fun w' => w'.cell? ⟨kb, 0, none⟩ = some (.int .i64 d.hops) ∧ w'.cell? ⟨kb, 1, none⟩ = some (.int .i64 d.ident) ∧ w'.cell? ⟨kb, 2, none⟩ = some (.int .i64 d.time)) (go_keep) ((go_at_call 58; refine (HP.out W4.drew (Blk.drew K4.out) (Row.drew R4.out)).mono ?_; rintro e w5 ⟨B, dd, rfl, hd, hF, hR, b5x⟩; have b5 := undrew b5x; have K5 := Lib.hid (show KB w5 kb d from Blk.below K4.out b5 K4.out.lt); have HDD := Lib.hid hd; have HF := Lib.hid hF; have HR5 := Lib.hid hR; have SZ := Lib.hid E4.out.size; have E5 := Lib.hid (E4.out.trans (keep_of_below b5)); clear b5 hd hF hR; obtain ⟨p0', p1', p2', _, _, _, _, _, _, _, _⟩ := K5.out.cells))
  go_wp2
  go_ret
  exact ⟨_, _, rfl, HDD.out, (fun a e => Nat.le_trans SZ.out (HF.out a e)), HR5.out, K5.out, E5.out⟩
end Go.Proofs.Ytofaghpflmeblaa
namespace Go.Proofs.Ytofaghpflmeblaa
open Go.RowKit
set_option linter.unusedVariables false

section
theorem heap_setCells_other (b k : Nat) (hk : k ≠ b) : ∀ (vs : List Value) (o : Nat) (w : World), (w.setCells b o vs).heap[k]? = w.heap[k]?
  | [], _, _ => rfl
  | v :: r, o, w => (heap_setCells_other b k hk r (o + 1) (w.setCell ⟨b, o, none⟩ v)).trans (Below.heap_setCell w ⟨b, o, none⟩ v k hk)
theorem size_setCells (b : Nat) : ∀ (vs : List Value) (o : Nat) (w : World), (w.setCells b o vs).heap.size = w.heap.size
  | [], _, _ => rfl
  | v :: r, o, w => (size_setCells b r (o + 1) (w.setCell ⟨b, o, none⟩ v)).trans (World.size_setCell _ _ _)
theorem grownBy_setCells (b : Nat) : ∀ (vs : List Value) (o : Nat) (w : World), w.grownBy (w.setCells b o vs) (some b)
  | [], _, w => World.grownBy_refl w _
  | v :: r, o, w => (grownBy_setCellAt w b o v).trans (grownBy_setCells b r (o + 1) _)
theorem Blk.farCells {w : World} {g b : Nat} {t : TypeId} {cs : Array Value} (h : Blk w g t cs) (hne : g ≠ b) (o : Nat) (vs : List Value) : Blk (w.setCells b o vs) g t cs := (heap_setCells_other b g hne vs o w).trans h
theorem below_setCells {B b : Nat} {w w' : World} (h : Below B w w') (hB : B ≤ b) (hs : B ≤ w'.heap.size) (o : Nat) (vs : List Value) : Below B w (w'.setCells b o vs) :=
  h.grown (grownBy_setCells b vs o w') hs (fun k e => by cases e; exact hB)
/-- the cells of a block behind many stores -/
def setAll (cs : Array Value) : Nat → List Value → Array Value
  | _, [] => cs
  | o, v :: r => setAll (cs.setIfInBounds o v) (o + 1) r
theorem setAll_size : ∀ (vs : List Value) (o : Nat) (cs : Array Value), (setAll cs o vs).size = cs.size
  | [], _, _ => rfl
  | v :: r, o, cs => by rw [setAll, setAll_size r]; simp
theorem setAll_out : ∀ (vs : List Value) (o : Nat) (cs : Array Value) (j : Nat), j < o ∨ o + vs.length ≤ j → (setAll cs o vs)[j]? = cs[j]?
  | [], _, _, _, _ => rfl
  | v :: r, o, cs, j, h => by
    rw [setAll, setAll_out r (o + 1) _ j (by simp at h; omega), Array.getElem?_setIfInBounds, if_neg (by simp at h; omega)]
theorem setAll_in : ∀ (vs : List Value) (o : Nat) (cs : Array Value) (j : Nat), j < vs.length → o + j < cs.size → (setAll cs o vs)[o + j]? = vs[j]?
  | [], _, _, _, h, _ => by simp at h
  | v :: r, o, cs, j, h, hs => by
    rw [setAll]
    cases j with
    | zero =>
      rw [setAll_out r (o + 1) _ (o + 0) (by omega), Array.getElem?_setIfInBounds, if_pos (by omega), if_pos (by omega)]; rfl
    | succ j =>
      have := setAll_in r (o + 1) (cs.setIfInBounds o v) j (by simpa using h) (by simp; omega)
      rw [show o + (j + 1) = o + 1 + j by omega, this]; rfl
theorem Blk.setCells {g : Nat} {t : TypeId} : ∀ (vs : List Value) (o : Nat) (w : World) (cs : Array Value), Blk w g t cs → Blk (w.setCells g o vs) g t (setAll cs o vs)
  | [], _, _, _, h => h
  | v :: r, o, w, cs, h => Blk.setCells r (o + 1) (w.setCell ⟨g, o, none⟩ v) (cs.setIfInBounds o v) (h.set_ o v)
theorem Blk.setWhole {w : World} {g : Nat} {t : TypeId} {cs : Array Value} (h : Blk w g t cs) (vs : List Value) (hl : cs.size = vs.length) : Blk (w.setCells g 0 vs) g t vs.toArray := by
  have h2 := Blk.setCells vs 0 w cs h
  have e : setAll cs 0 vs = vs.toArray := by
    apply Array.ext_getElem?
    intro j
    by_cases hj : j < vs.length
    · have := setAll_in vs 0 cs j hj (by omega)
      rw [Nat.zero_add] at this
      rw [this]; simp
    · rw [Array.getElem?_eq_none (by rw [setAll_size]; omega), Array.getElem?_eq_none (by simp; omega)]
  rw [e] at h2; exact h2
theorem Blk.range {w : World} {g : Nat} {t : TypeId} {cs : Array Value} (h : Blk w g t cs) (vs : List Value) (hv : cs = vs.toArray) : w.rangeAt g 0 vs := fun j v hj => by
  rw [Nat.zero_add, h.cell j, hv]; simpa using hj
theorem Blk.there {w : World} {g : Nat} {t : TypeId} {cs : Array Value} (h : Blk w g t cs) (n : Nat) (hn : n ≤ cs.size) : w.there g 0 n := fun j hj => by
  rw [Nat.zero_add]
  refine ⟨?_, h.frozen j⟩
  rw [h.cell j, Array.getElem?_eq_getElem (by omega)]; rfl
end
end Go.Proofs.Ytofaghpflmeblaa
namespace Go.Proofs.Ytofaghpflmeblaa
open Go.RowKit
set_option linter.unusedVariables false

attribute [local go_sem ↓] Go.wp_at_zero Go.wp_at_succ

/-- the error of a packet with a full header -/
def fuErr (n : Nat) (z : Nat → Int) : Int := if z 2 / 16 ≠ 5 then 9 else if 9000 < n then 4 else 0
theorem slice2_20 (lb lo n c : Nat) (hn : 20 ≤ n) (hnc : n ≤ c) : ∀ w, (Instr.slice 24 (.slice (some ⟨lb, lo, none⟩) n c) (some (.int .i64 2)) (some (.int .i64 20)) (some (.int .i64 20))).run Try.prog w = .ok (.slice (some ⟨lb, lo + 2, none⟩) 18 18) w := fun w => by
  have hm0 : (20 : Int) ≤ (c : Int) := by omega
  simp [go_sem, hm0]

set_option maxRecDepth 100000 in
set_option maxHeartbeats 1600000 in
theorem efull_bad (kb : Value) (A : Option Addr) (n cp : Nat) (z : Nat → Int) (x : Int) (hn : 20 ≤ n) (hnc : n ≤ cp) (hm : n ≤ maxLen) (hz : ∀ j, j < n → 0 ≤ z j ∧ z j < 256) (hx : fuErr n z = x) (h0 : x ≠ 0) (w : World) (hr : Row w w.heap.size A n (fun j => .int .u8 (z j))) :
    Calls Try.prog 34 #[kb, .slice A n cp] w fun e w' => e = errno x ∧ w' = w := by
  unfold maxLen at hm
  obtain ⟨lb, lo, rfl, hlb, hc⟩ := hr (by omega)
  obtain ⟨lo2, hsl, hlo⟩ := slice_from lb lo n cp 20 20 rfl hn hnc
  have c2 : w.cell? ⟨lb, lo + 2, none⟩ = some (.int .u8 (z 2)) := hc 2 (by omega)
  have b2 := hz 2 (by omega)
  unfold fuErr at hx
  obtain ⟨x2, hx2⟩ : ∃ x, x = z 2 := ⟨_, rfl⟩
  rw [← hx2] at c2 b2 hx
  have i2 : (2 : Int) < (n : Int) := by omega
  clear hz hr hlo hc hx2
  by_cases h5 : x2 / 16 = 5
  · rw [if_neg (not_not_intro h5)] at hx
    by_cases h9 : 9000 < n
    · rw [if_pos h9] at hx
      subst hx
      have h91 : ¬ (((n - 20 : Nat) : Int) ≤ 8980) := by omega
      have h92 : decide (((n - 20 : Nat) : Int) ≤ 8980) = false := by simp; omega
      have h51 : (x2 / 16 == 5) = true := by simpa using h5
      go_enter Try.func34, Try.ntmps34
      go_wp2_with (first
        | (go_at_call 32; refine (emust_false 4 _).mono ?_; rintro e w1 ⟨rfl, rfl⟩)
        | (go_at_call 32; refine (emust_true 9 _).mono ?_; rintro e w1 ⟨rfl, rfl⟩))
      exact ⟨rfl, rfl, rfl⟩
    · rw [if_neg h9] at hx
      exact absurd hx.symm h0
  · rw [if_pos h5] at hx
    subst hx
    have h51 : (x2 / 16 == 5) = false := by simpa using h5
    go_enter Try.func34, Try.ntmps34
    go_wp2_with (go_at_call 32; refine (emust_false 9 _).mono ?_; rintro e w1 ⟨rfl, rfl⟩)
    exact ⟨rfl, rfl, rfl⟩
theorem three_cat (n : Nat) (z : Nat → Int) (hn : 20 ≤ n) (j : Nat) (hj : j < n) : catY (fun k => if k = 0 then 18 else if k = 1 then 2 else n - 20) (fun k => if k = 0 then (fun j => z (2 + j)) else if k = 1 then (fun j => ([(n : Int) / 256, (n : Int) % 256] : List Int).getD j 0) else (fun j => z (20 + j))) 3 j = fullY n z j := by
  unfold fullY
  simp only [catY, tot]
  by_cases h1 : j < 18
  · simp [h1, show j < 20 by omega]
  · by_cases h2 : j < 20
    · have : j = 18 ∨ j = 19 := by omega
      rcases this with rfl | rfl <;> simp
    · simp [h1, h2, show ¬ j = 18 by omega, show ¬ j = 19 by omega, show 20 + (j - 20) = j by omega]
theorem eleven_set (w : World) (g : Nat) (t : TypeId) (X0 X1 X2 X3 X4 X5 X6 X7 X8 X9 X10 Y0 Y1 Y2 Y3 Y4 Y5 Y6 Y7 Y8 Y9 Y10 : Value) (h : Blk w g t #[X0, X1, X2, X3, X4, X5, X6, X7, X8, X9, X10]) : Blk (((((((((((w.setCell ⟨g, 0, none⟩ Y0).setCell ⟨g, 1, none⟩ Y1).setCell ⟨g, 2, none⟩ Y2).setCell ⟨g, 3, none⟩ Y3).setCell ⟨g, 4, none⟩ Y4).setCell ⟨g, 5, none⟩ Y5).setCell ⟨g, 6, none⟩ Y6).setCell ⟨g, 7, none⟩ Y7).setCell ⟨g, 8, none⟩ Y8).setCell ⟨g, 9, none⟩ Y9).setCell ⟨g, 10, none⟩ Y10) g t #[Y0, Y1, Y2, Y3, Y4, Y5, Y6, Y7, Y8, Y9, Y10] := by
  replace h := h.set_ 0 Y0
  rw [show (#[X0, X1, X2, X3, X4, X5, X6, X7, X8, X9, X10] : Array Value).setIfInBounds 0 Y0 = #[Y0, X1, X2, X3, X4, X5, X6, X7, X8, X9, X10] from rfl] at h
  replace h := h.set_ 1 Y1
  rw [show (#[Y0, X1, X2, X3, X4, X5, X6, X7, X8, X9, X10] : Array Value).setIfInBounds 1 Y1 = #[Y0, Y1, X2, X3, X4, X5, X6, X7, X8, X9, X10] from rfl] at h
  replace h := h.set_ 2 Y2
  rw [show (#[Y0, Y1, X2, X3, X4, X5, X6, X7, X8, X9, X10] : Array Value).setIfInBounds 2 Y2 = #[Y0, Y1, Y2, X3, X4, X5, X6, X7, X8, X9, X10] from rfl] at h
  replace h := h.set_ 3 Y3
  rw [show (#[Y0, Y1, Y2, X3, X4, X5, X6, X7, X8, X9, X10] : Array Value).setIfInBounds 3 Y3 = #[Y0, Y1, Y2, Y3, X4, X5, X6, X7, X8, X9, X10] from rfl] at h
  replace h := h.set_ 4 Y4
  rw [show (#[Y0, Y1, Y2, Y3, X4, X5, X6, X7, X8, X9, X10] : Array Value).setIfInBounds 4 Y4 = #[Y0, Y1, Y2, Y3, Y4, X5, X6, X7, X8, X9, X10] from rfl] at h
  replace h := h.set_ 5 Y5
  rw [show (#[Y0, Y1, Y2, Y3, Y4, X5, X6, X7, X8, X9, X10] : Array Value).setIfInBounds 5 Y5 = #[Y0, Y1, Y2, Y3, Y4, Y5, X6, X7, X8, X9, X10] from rfl] at h
  replace h := h.set_ 6 Y6
  rw [show (#[Y0, Y1, Y2, Y3, Y4, Y5, X6, X7, X8, X9, X10] : Array Value).setIfInBounds 6 Y6 = #[Y0, Y1, Y2, Y3, Y4, Y5, Y6, X7, X8, X9, X10] from rfl] at h
  replace h := h.set_ 7 Y7
  rw [show (#[Y0, Y1, Y2, Y3, Y4, Y5, Y6, X7, X8, X9, X10] : Array Value).setIfInBounds 7 Y7 = #[Y0, Y1, Y2, Y3, Y4, Y5, Y6, Y7, X8, X9, X10] from rfl] at h
  replace h := h.set_ 8 Y8
  rw [show (#[Y0, Y1, Y2, Y3, Y4, Y5, Y6, Y7, X8, X9, X10] : Array Value).setIfInBounds 8 Y8 = #[Y0, Y1, Y2, Y3, Y4, Y5, Y6, Y7, Y8, X9, X10] from rfl] at h
  replace h := h.set_ 9 Y9
  rw [show (#[Y0, Y1, Y2, Y3, Y4, Y5, Y6, Y7, Y8, X9, X10] : Array Value).setIfInBounds 9 Y9 = #[Y0, Y1, Y2, Y3, Y4, Y5, Y6, Y7, Y8, Y9, X10] from rfl] at h
  replace h := h.set_ 10 Y10
  rw [show (#[Y0, Y1, Y2, Y3, Y4, Y5, Y6, Y7, Y8, Y9, X10] : Array Value).setIfInBounds 10 Y10 = #[Y0, Y1, Y2, Y3, Y4, Y5, Y6, Y7, Y8, Y9, Y10] from rfl] at h
  exact h
theorem ejoined3 (n : Nat) (z : Nat → Int) (sb lb lo lo2 tb cp : Nat) (hn : 20 ≤ n) (hm : n ≤ 9000) (W : World) (S : Blk W sb 24 #[.slice (some ⟨lb, lo + 2, none⟩) 18 18, .slice (some ⟨tb, 0, none⟩) 2 2, .slice (some ⟨lb, lo2, none⟩) (n - 20) (cp - 20)])
    (T : Row W W.heap.size (some ⟨tb, 0, none⟩) 2 (fun j => .int .u8 (([(n : Int) / 256, (n : Int) % 256] : List Int).getD j 0))) (R : Row W W.heap.size (some ⟨lb, lo, none⟩) n (fun j => .int .u8 (z j))) (hlo : 20 < n → lo2 = lo + 20) :
    Calls Try.prog 56 #[.slice (some ⟨sb, 0, none⟩) 3 3] W (POut n (fullY n z) W) := by
  have ht : tot (fun k => if k = 0 then 18 else if k = 1 then 2 else n - 20) 3 = n := by simp [tot]; omega
  have H := ejoined_ok 3 sb (fun k => if k = 0 then some ⟨lb, lo + 2, none⟩ else if k = 1 then some ⟨tb, 0, none⟩ else some ⟨lb, lo2, none⟩) (fun k => if k = 0 then 18 else if k = 1 then 2 else n - 20) (fun k => if k = 0 then 18 else if k = 1 then 2 else cp - 20) (fun k => if k = 0 then (fun j => z (2 + j)) else if k = 1 then (fun j => ([(n : Int) / 256, (n : Int) % 256] : List Int).getD j 0) else (fun j => z (20 + j))) (by decide) (by rw [ht]; omega) (by rw [ht]; omega) W S.lt
    (fun k hk => match k, hk with
      | 0, _ => S.cell 0
      | 1, _ => S.cell 1
      | 2, _ => S.cell 2
      | k + 3, h => absurd h (by omega))
    (fun k hk => match k, hk with
      | 0, _ => (row_from R (k := 2) (lo2 := lo + 2) (fun _ => rfl)).take (by simp; omega)
      | 1, _ => T
      | 2, _ => row_from R hlo
      | k + 3, h => absurd h (by omega))
  rw [ht] at H
  exact H.mono fun e w' ⟨B, d, he, hd, hF, hR, hB⟩ => ⟨B, d, he, hd, hF, hR.congr (fun j hj => by rw [three_cat n z hn j hj]), hB⟩
set_option maxRecDepth 100000 in
set_option maxHeartbeats 1600000 in
theorem efull_ok (kb lb lo : Nat) (c : Ec) (n cp : Nat) (z : Nat → Int) (hn : 20 ≤ n) (hnc : n ≤ cp) (hz : ∀ j, j < n → 0 ≤ z j ∧ z j < 256) (hx : fuErr n z = 0) (hlk : lb ≠ kb) (w : World) (h : KB w kb c) (hr : Row w w.heap.size (some ⟨lb, lo, none⟩) n (fun j => .int .u8 (z j))) :
    Calls Try.prog 34 #[.pointer (some ⟨kb, 0, none⟩), .slice (some ⟨lb, lo, none⟩) n cp] w (KOut n (fullY n z) kb (fullC n z) w) := by
  obtain ⟨h5, h9⟩ : z 2 / 16 = 5 ∧ n ≤ 9000 := by
    unfold fuErr at hx
    by_cases a : z 2 / 16 = 5
    · rw [if_neg (not_not_intro a)] at hx
      by_cases b : 9000 < n
      · rw [if_pos b] at hx; cases hx
      · exact ⟨a, by omega⟩
    · rw [if_pos a] at hx; cases hx
  obtain ⟨lb', lo', hab, hlb, hc⟩ := hr (by omega)
  cases hab
  obtain ⟨lo2, hsl, hlo⟩ := slice_from lb lo n cp 20 20 rfl hn hnc
  have hs2 := slice2_20 lb lo n cp hn hnc
  have c1 : w.cell? ⟨lb, lo + 1, none⟩ = some (.int .u8 (z 1)) := hc 1 (by omega)
  have c2 : w.cell? ⟨lb, lo + 2, none⟩ = some (.int .u8 (z 2)) := hc 2 (by omega)
  have b2 := hz 2 (by omega)
  have i2 : (2 : Int) < (n : Int) := by omega
  have i1 : (1 : Int) < (n : Int) := by omega
  have h51 : (z 2 / 16 == 5) = true := by simpa using h5
  have h91 : (((n - 20 : Nat) : Int) ≤ 8980) := by omega
  have nw : IntKind.i64.wrap (20 + ((n - 20 : Nat) : Int)) = (n : Int) := by rw [show (20 : Int) + ((n - 20 : Nat) : Int) = n by omega]; exact IntWalk.i64_in _ (by omega)
  have n1 : IntKind.u8.wrap ((n : Int) / 256) = (n : Int) / 256 := by rw [IntKind.wrap_u8]; omega
  have n2 : IntKind.u8.wrap (n : Int) = (n : Int) % 256 := by rw [IntKind.wrap_u8]
  have HR := Lib.hid hr
  have HLO := Lib.hid hlo
  have hp := fullY_pErr n z hn h9 h5 b2
  have hLn : pLen n (fullY n z) = n - 20 := by unfold pLen; rw [if_pos hp]
  have HP := Lib.hid (fun (B : Option Addr) (d : Nat) (W : World) (hd : n ≤ d) (hR : Row W W.heap.size B n (fun j => .int .u8 (fullY n z j))) => parse_any B n d (fullY n z) hd (fullY_byte n z hn h9 hz) W hR)
  unfold ParseEnd hdr at HP
  rw [hLn, hp] at HP
  have HFC : Hid (fullC n z = ⟨pHdr n (fullY n z) 5, pHdr n (fullY n z) 6, pHdr n (fullY n z) 7, true, pHdr n (fullY n z) 0, pHdr n (fullY n z) 1, pHdr n (fullY n z) 2, pHdr n (fullY n z) 3, pHdr n (fullY n z) 4, z 1, 0⟩) := Lib.hid rfl
  obtain ⟨X, hX⟩ : ∃ X, X = pHdr n (fullY n z) := ⟨_, rfl⟩
  rw [← hX] at HP HFC
  obtain ⟨d', hd'⟩ : ∃ d', d' = fullC n z := ⟨_, rfl⟩
  rw [← hd'] at HFC ⊢
  obtain ⟨x1, hx1⟩ : ∃ x, x = z 1 := ⟨_, rfl⟩
  rw [← hx1] at c1 HFC
  clear hX hd' hp hLn hx1
  have HZ := Lib.hid hz
  have HK := Lib.hid h
  clear hz hr hlo hc h5 hx h
  go_enter Try.func34, Try.ntmps34
  go_upto_region 5 with (go_at_call 32; refine (emust_true _ _).mono ?_; rintro e wq ⟨rfl, hq⟩; obtain rfl := hq.symm)
  go_wp2_with (first
    | (go_at_call 32; refine (emust_true _ _).mono ?_; rintro e wq ⟨rfl, hq⟩; obtain rfl := hq.symm)
    | (go_at_call 56;
       obtain ⟨W2, hW2⟩ : ∃ W2, W2 = (w.alloc (.cells #[.int .u8 ((n : Int) / 256), .int .u8 ((n : Int) % 256)] 5)).alloc (.cells #[.slice (some ⟨lb, lo + 2, none⟩) 18 18, .slice (some ⟨w.heap.size, 0, none⟩) 2 2, .slice (some ⟨lb, lo2, none⟩) (n - 20) (cp - 20)] 24) := ⟨_, rfl⟩;
       rw [← hW2];
       have sz2 : W2.heap.size = w.heap.size + 1 + 1 := (by rw [hW2]; simp);
       have S2 := Lib.hid (show Blk W2 (w.heap.size + 1) 24 #[.slice (some ⟨lb, lo + 2, none⟩) 18 18, .slice (some ⟨w.heap.size, 0, none⟩) 2 2, .slice (some ⟨lb, lo2, none⟩) (n - 20) (cp - 20)] from (by rw [hW2]; exact blk_new_at _ _ _ _ (by simp)));
       have B2 := Lib.hid (show Below w.heap.size w W2 from (by rw [hW2]; exact ((Below.refl _ w).alloc (Nat.le_refl _) _).alloc (by simp) _));
       have T2 := Lib.hid (show Row W2 W2.heap.size (some ⟨w.heap.size, 0, none⟩) 2 (fun j => .int .u8 (([(n : Int) / 256, (n : Int) % 256] : List Int).getD j 0)) from lit_bytes [(n : Int) / 256, (n : Int) % 256] (show Blk W2 w.heap.size 5 _ from (by rw [hW2]; exact (Blk.new _ _ _).alloc _)) (by omega));
       have R2 := Lib.hid (show Row W2 W2.heap.size (some ⟨lb, lo, none⟩) n (fun j => .int .u8 (z j)) from Row.next HR.out B2.out);
       clear hW2;
       refine (ejoined3 n z (w.heap.size + 1) lb lo lo2 w.heap.size cp hn h9 W2 S2.out T2.out R2.out HLO.out).mono ?_;
       rintro e w3 ⟨B, d, rfl, hd, hF, hR3, b3⟩;
       have HD := Lib.hid hd; have HF := Lib.hid hF; have R3 := Lib.hid hR3; have B3 := Lib.hid (below_step B2.out b3); clear hd hF hR3 b3)
    | (go_at_call 42; refine (HP.out B d w3 HD.out R3.out).mono ?_; rintro e w4 ⟨P, c4, rfl, _, _, b4⟩; have B4 := Lib.hid (below_step B3.out b4); have R4 := Lib.hid (R3.out.next b4); clear b4)
    )
  refine wp_world (fun W => Blk W w4.heap.size 36 #[.int .i64 (X 0), .int .i64 (X 1), .int .i64 (X 2), .int .i64 (X 3), .int .i64 (X 4), .int .i64 (X 5), .int .i64 (X 6), .int .i64 (X 7), .int .i64 (X 8)] ∧ Below w.heap.size w W ∧ Row W w4.heap.size B n (fun j => .int .u8 (fullY n z j))) ⟨?_, ?_, ?_⟩ ?_
  · exact Blk.new w4 _ _
  · exact below_new B4.out _
  · exact R4.out.alloc (Nat.le_refl _) _
  rintro W5 ⟨h5', b5, r5⟩
  obtain ⟨hb, hhb⟩ : ∃ hb, hb = w4.heap.size := ⟨_, rfl⟩
  rw [← hhb] at h5' r5 ⊢
  have H5 := Lib.hid h5'
  have B5 := Lib.hid b5
  have R5 := Lib.hid r5
  have hbk : hb ≠ kb := by have := HK.out.lt; have := B4.out.size; omega
  have K5 := Lib.hid (show KB W5 kb c from Blk.below HK.out B5.out HK.out.lt)
  have hbl := H5.out.lt
  have n1' : ¬ hb = kb := hbk
  have n2' : ¬ kb = hb := fun e => hbk e.symm
  have n3' : ¬ lb = kb := hlk
  have n4' : ¬ kb = lb := fun e => hlk e.symm
  have c1' := (B5.out.cell (p := ⟨lb, lo + 1, none⟩) hlb).trans c1
  clear h5' b5 r5 hhb c1 c2
  obtain ⟨q0, q1, q2, q3, q4, q5, q6, q7, q8⟩ := H5.out.nine
  go_region_held3 (fun w' => w'.cell? ⟨hb, 0, none⟩ = some (.int .i64 (X 0)) ∧ w'.cell? ⟨hb, 1, none⟩ = some (.int .i64 (X 1)) ∧ w'.cell? ⟨hb, 2, none⟩ = some (.int .i64 (X 2)) ∧ w'.cell? ⟨hb, 3, none⟩ = some (.int .i64 (X 3)) ∧ w'.cell? ⟨hb, 4, none⟩ = some (.int .i64 (X 4)) ∧ w'.cell? ⟨hb, 5, none⟩ = some (.int .i64 (X 5)) ∧ w'.cell? ⟨hb, 6, none⟩ = some (.int .i64 (X 6)) ∧ w'.cell? ⟨hb, 7, none⟩ = some (.int .i64 (X 7)) ∧ w'.cell? ⟨hb, 8, none⟩ = some (.int .i64 (X 8)) ∧ w'.cell? ⟨lb, lo + 1, none⟩ = some (.int .u8 x1)) (go_keep) ((go_at_call 45; refine (static_ok (X 0) (X 1) (X 2) (X 3) (X 4) (X 5) (X 6) (X 7) (X 8) _).mono ?_; rintro e w6 ⟨rfl, b6⟩; have H6 := Lib.hid (H5.out.drew.below b6 hbl); have K6 := Lib.hid (show KB w6 kb c from Blk.below (Blk.drew K5.out) b6 K5.out.lt); have B6 := Lib.hid (below_step B5.out.drew b6); have R6 := Lib.hid (R5.out.drew.below (b6.mono (Nat.le_of_lt hbl))); clear b6; obtain ⟨p0, p1, p2, p3, p4, p5, p6, p7, p8⟩ := H6.out.nine; have c1'' : w6.cell? ⟨lb, lo + 1, none⟩ = some (.int .u8 x1) := (B6.out.cell (p := ⟨lb, lo + 1, none⟩) hlb).trans (((B5.out.cell (p := ⟨lb, lo + 1, none⟩) hlb).symm).trans c1'); obtain ⟨k0, k1, k2, k3, k4, k5, k6, k7, k8, k9, k10⟩ := K6.out.cells; have f0 := Blk.frozen K6.out 0; have f1 := Blk.frozen K6.out 1; have f2 := Blk.frozen K6.out 2; have f3 := Blk.frozen K6.out 3; have f4 := Blk.frozen K6.out 4; have f5 := Blk.frozen K6.out 5; have f6 := Blk.frozen K6.out 6; have f7 := Blk.frozen K6.out 7; have f8 := Blk.frozen K6.out 8; have f9 := Blk.frozen K6.out 9; have f10 := Blk.frozen K6.out 10))
  refine then_world (fun W => KB W kb d' ∧ Keep1 kb w6 W) ⟨?_, ?_⟩ ?_
  · rw [HFC.out]; exact eleven_set w6 kb _ _ _ _ _ _ _ _ _ _ _ _ _ _ _ _ _ _ _ _ _ _ _ K6.out
  · exact grownBy_set (grownBy_set (grownBy_set (grownBy_set (grownBy_set (grownBy_set (grownBy_set (grownBy_set (grownBy_set (grownBy_set (grownBy_set (World.grownBy_refl _ _) _ _) _ _) _ _) _ _) _ _) _ _) _ _) _ _) _ _) _ _) _ _
  rintro W7 ⟨k7', e7⟩
  have K7 := Lib.hid k7'
  have E7 := Lib.hid e7
  clear k7' e7
  have hkl := HK.out.lt
  go_wp2
  go_ret
  refine ⟨B, d, rfl, HD.out, fun a e => by have := HF.out a e; omega, ?_, K7.out, (keep_of_below B6.out).trans E7.out⟩
  exact (E7.out.row R6.out (Nat.le_of_lt H6.out.lt) (fun a e => by have := HF.out a e; omega)).more (Nat.le_trans (Nat.le_of_lt H6.out.lt) E7.out.size)
end Go.Proofs.Ytofaghpflmeblaa
namespace Go.Proofs.Ytofaghpflmeblaa
open Go.RowKit
set_option linter.unusedVariables false

attribute [local go_sem] Oper.semAt_some
attribute [local go_sem ↓] Go.wp_at_zero Go.wp_at_succ

/-- a region's end in a function with defers: a panic is told by its chain, the defers and slot k -/
@[reducible] def normOr (K : Act → World → Prop) (J : List PanicEntry → List Deferred → Value → World → Prop) (k : Nat) : Exit → Act → World → Prop
  | .normal, a, w => K a w
  | .panic c, a, w => J c a.defers (a.tmps.getD k undef) w
  | _, _, _ => False
theorem normOr_put {K : Act → World → Prop} {J : List PanicEntry → List Deferred → Value → World → Prop} {k d : Nat} {v : Value} (h : d ≠ k) : ∀ c (a : Act) w, normOr K J k (.panic c) (a.put (some d) v) w → normOr K J k (.panic c) a w := fun c a w hh => by
  have e : (a.put (some d) v).tmps.getD k undef = a.tmps.getD k undef := by
    simp [Act.put, h]
  show J c a.defers (a.tmps.getD k undef) w
  rw [← e]; exact hh
theorem wp_normOr {P : Program} {c : Code} {K : Act → World → Prop} {Q : Exit → Act → World → Prop} {a : Act} {w : World} (J : List PanicEntry → List Deferred → Value → World → Prop) (k : Nat) (hJ : ∀ ch (a : Act) w, J ch a.defers (a.tmps.getD k undef) w → Q (.panic ch) a w) (h : c.wp P (normOr K J k) a w) : c.wp P (Exit.then K Q) a w :=
  wp_mono h (by
    intro e a w h
    cases e with
    | normal => exact h
    | panic ch => exact hJ ch a w h
    | _ => exact h.elim)
theorem clear_ok (pb : Nat) (v : Value) (w : World) (hP : Blk w pb 24 #[v]) :
    Calls Try.prog 30 #[.pointer (some ⟨pb, 0, none⟩)] w fun e w' => e = .returned (.tuple #[]) ∧ w' = w.setCell ⟨pb, 0, none⟩ (.slice none 0 0) := by
  have cp : w.cell? ⟨pb, 0, none⟩ = some v := hP.cell 0
  have fp := hP.frozen 0
  clear hP
  go_enter Try.func30, Try.ntmps30
  go_wp2
  go_end0
  exact ⟨rfl, rfl⟩
theorem noop_ok (w : World) : Calls Try.prog 54 #[] w fun e w' => e = .returned (.tuple #[]) ∧ w' = w := by
  go_enter Try.func54, Try.ntmps54
  go_wp2
  go_end0
  exact ⟨rfl, rfl⟩

set_option maxRecDepth 100000 in
set_option maxHeartbeats 400000 in
theorem ecaught_clear (p : Addr) (pb : Nat) (v : Value) (x e : Int) (older : List PanicEntry) (w : World) (hP : Blk w pb 24 #[v]) (hc : (w.setCell ⟨pb, 0, none⟩ (.slice none 0 0)).cell? p = some (.int .i64 x)) (hz : (w.setCell ⟨pb, 0, none⟩ (.slice none 0 0)).frozen? p = false) :
    CallsD Try.prog 29 #[.pointer (some p), .func (.func 30) #[] #[.pointer (some ⟨pb, 0, none⟩)]] (.panicking ({ v := .iface 28 (.int .i64 e), recovered := false } :: older)) w fun en u' w' =>
      en = .returned (.tuple #[]) ∧ u' = .panicking ({ v := .iface 28 (.int .i64 e), recovered := true } :: older) ∧ w' = (w.setCell ⟨pb, 0, none⟩ (.slice none 0 0)).setCell p (.int .i64 e) := by
  have C := Lib.hid (clear_ok pb v w hP)
  have hta : ∀ X : World, (Instr.typeAssert (.iface 28 (.int .i64 e)) 20 28 true).run Try.prog X = .ok (.tuple #[.int .i64 e, .bool true]) X := fun X => by kernel_rfl
  have HC := Lib.hid hc
  have HZ := Lib.hid hz
  clear hc hz hP
  refine callsD_of_wpS Try.func29 rfl fun c₀ cs hu => ?_
  simp only [Try.ntmps29, List.size_toArray, List.length_cons, List.length_nil, Nat.reduceAdd, Nat.reduceSub, Array.replicate_succ, Array.replicate_zero, List.push_toArray, List.append_toArray, List.nil_append, List.cons_append]
  apply wpS_seq
  apply wpS_region
  simp [wpOpsS, go_sem, recoverD, hu, Exit.thenS]
  refine wpS_of_wp (wp_mono (Q := bodyPost Try.prog Try.f29 (fun en w' => en = .returned (.tuple #[]) ∧ w' = (w.setCell ⟨pb, 0, none⟩ (.slice none 0 0)).setCell p (.int .i64 e))) ?_ ?_)
  rotate_left
  · exact fun e a w1 hq => post_S hq
  have HU := Lib.hid hu
  clear hu
  go_wp2_with (go_at_call 30; refine (C.out).mono ?_; rintro e w1 ⟨rfl, rfl⟩; have c9 := HC.out; have z9 := HZ.out)
  go_end0
  exact ⟨rfl, rfl⟩
set_option maxRecDepth 100000 in
set_option maxHeartbeats 400000 in
theorem ecaught_noop (p : Addr) (x e : Int) (older : List PanicEntry) (w : World) (hc : w.cell? p = some (.int .i64 x)) (hz : w.frozen? p = false) :
    CallsD Try.prog 29 #[.pointer (some p), .func (.func 54) #[] #[]] (.panicking ({ v := .iface 28 (.int .i64 e), recovered := false } :: older)) w fun en u' w' =>
      en = .returned (.tuple #[]) ∧ u' = .panicking ({ v := .iface 28 (.int .i64 e), recovered := true } :: older) ∧ w' = w.setCell p (.int .i64 e) := by
  have C := Lib.hid (noop_ok w)
  have hta : ∀ X : World, (Instr.typeAssert (.iface 28 (.int .i64 e)) 20 28 true).run Try.prog X = .ok (.tuple #[.int .i64 e, .bool true]) X := fun X => by kernel_rfl
  have HC := Lib.hid hc
  have HZ := Lib.hid hz
  clear hc hz
  refine callsD_of_wpS Try.func29 rfl fun c₀ cs hu => ?_
  simp only [Try.ntmps29, List.size_toArray, List.length_cons, List.length_nil, Nat.reduceAdd, Nat.reduceSub, Array.replicate_succ, Array.replicate_zero, List.push_toArray, List.append_toArray, List.nil_append, List.cons_append]
  apply wpS_seq
  apply wpS_region
  simp [wpOpsS, go_sem, recoverD, hu, Exit.thenS]
  refine wpS_of_wp (wp_mono (Q := bodyPost Try.prog Try.f29 (fun en w' => en = .returned (.tuple #[]) ∧ w' = w.setCell p (.int .i64 e))) ?_ ?_)
  rotate_left
  · exact fun e a w1 hq => post_S hq
  have HU := Lib.hid hu
  clear hu
  go_wp2_with (go_at_call 54; refine (C.out).mono ?_; rintro e wq ⟨rfl, hq⟩; obtain rfl := hq.symm; have c9 := HC.out; have z9 := HZ.out)
  go_end0
  exact ⟨rfl, rfl⟩
set_option maxRecDepth 100000 in
set_option maxHeartbeats 400000 in
theorem ecaught_idle (p : Addr) (F : Value) (w : World) :
    CallsD Try.prog 29 #[.pointer (some p), F] .returning w fun e u' w' => e = .returned (.tuple #[]) ∧ u' = .returning ∧ w' = w := by
  refine callsD_of_wpS Try.func29 rfl fun c₀ cs hu => ?_
  simp only [Try.ntmps29, List.size_toArray, List.length_cons, List.length_nil, Nat.reduceAdd, Nat.reduceSub, Array.replicate_succ, Array.replicate_zero, List.push_toArray, List.append_toArray, List.nil_append, List.cons_append]
  apply wpS_seq
  apply wpS_region
  simp [wpOpsS, go_sem, recoverD, hu, Exit.thenS]
  refine wpS_of_wp (wp_mono (Q := bodyPost Try.prog Try.f29 (fun en w' => en = .returned (.tuple #[]) ∧ w' = w)) ?_ ?_)
  rotate_left
  · have hu2 : ({ c₀ with mode := .returning } : Frame) = c₀ := by rw [← hu]
    intro e a w1 hq
    have := post_S (c₀ := c₀) (cs := cs) (u' := .returning) hq
    rwa [hu2] at this
  have HU := Lib.hid hu
  clear hu
  go_wp2
  go_end0
  exact ⟨rfl, rfl⟩
/- printed: checked -/
set_option maxRecDepth 100000 in
set_option maxHeartbeats 1600000 in
theorem checked1_ok (c : Ec) (A : Option Addr) (n cp : Nat) (z : Nat → Int) (hn : 2 < n) (hm : n ≤ maxLen) (hz : ∀ j, j < n → 0 ≤ z j ∧ z j < 256) (hg : 0 ≤ c.gen ∧ c.gen < 256) (w : World) (hr : Row w w.heap.size A n (fun j => .int .u8 (z j))) :
    Calls Try.prog 33 #[.agg c.arr, .int .u8 1, .slice A n cp] w fun e w' => e = .returned (.int .i64 (acErr c n z 6 ((c.gen + 1) % 256))) ∧ Below w.heap.size w w' := by
  have HA := Lib.hid (fun (kb : Nat) (W : World) (hK : KB W kb c) (hR : Row W W.heap.size A n (fun j => .int .u8 (z j))) => accepts_ok kb c A n cp z 6 ((c.gen + 1) % 256) hn hm (by decide) hz W hK hR)
  have HR := Lib.hid hr
  obtain ⟨X, hX⟩ : ∃ X, X = acErr c n z 6 ((c.gen + 1) % 256) := ⟨_, rfl⟩
  rw [← hX] at HA ⊢
  have gw : IntKind.u8.wrap (c.gen + 1) = (c.gen + 1) % 256 := by rw [IntKind.wrap_u8]; try omega
  have ha : bits .and .u8 1 1 = 1 := by decide
  have hmf : ∀ (fn : Fn) (first cap : Array Value) (w : World), (Instr.makeFunc fn first cap).run Try.prog w = .ok (.func fn first cap) w := fun _ _ _ _ => rfl
  obtain ⟨H, hH⟩ : ∃ H, H = w.heap.size := ⟨_, rfl⟩
  clear hr hX hz
  unfold Ec.arr
  go_enter_defers Try.func33, Try.ntmps33
  go_upto_region 2 with (fail)
  refine wp_world (fun W => KB W H c ∧ Blk W (H + 1) 28 #[.int .i64 0] ∧ Below w.heap.size w W) ⟨by rw [hH]; exact (Blk.new _ _ _).alloc _, by rw [hH]; exact blk_new_at _ _ _ _ (by simp), ((Below.refl _ w).alloc (Nat.le_refl _) _).alloc (by simp) _⟩ ?_
  rw [← hH]
  rintro W1 ⟨k1', e1, b1⟩
  have K1 := Lib.hid k1'
  have E1 := Lib.hid e1
  have B1 := Lib.hid (show Below w.heap.size w W1 from by rw [← hH]; exact b1)
  have R1 := Lib.hid (HR.out.next B1.out)
  have hh : H + 1 < W1.heap.size := e1.lt
  have HHS := Lib.hid hH
  clear k1' e1 b1 hH
  obtain ⟨w0, hw0⟩ : ∃ w0, w0 = W1.drew := ⟨_, rfl⟩
  have b0 : Below W1.heap.size W1 w0 := by rw [hw0]; exact (Below.refl _ W1).drew
  have B0 := Lib.hid b0
  have K0 := Lib.hid (show KB w0 H c from Blk.below K1.out B0.out K1.out.lt)
  have E0 := Lib.hid (E1.out.below B0.out hh)
  have R0 := Lib.hid (R1.out.next B0.out)
  have HS9 := Lib.hid (show ∀ W, Below W1.heap.size W1 W → W.cell? ⟨H, 9, none⟩ = some (.int .u8 c.gen) from fun W hW => (Blk.below K1.out hW K1.out.lt).cell 9)
  refine wp_normOr (fun ch ds v W => X ≠ 0 ∧ ch = [{ v := .iface 28 (.int .i64 X), recovered := false }] ∧ ds = [{ target := .fn (.func 29) #[], args := #[.pointer (some ⟨H + 1, 0, none⟩), .func (.func 54) #[] #[]] }] ∧ v = .pointer (some ⟨H + 1, 0, none⟩) ∧ W = w0) 6 ?_ ?_
  · rintro _ a _ ⟨_, rfl, hds, hv, rfl⟩
    show Leaves _ _ _ _ a.defers _ _
    rw [hds]
    refine leaves_cons (f := 29) (args := #[.pointer (some ⟨H + 1, 0, none⟩), .func (.func 54) #[] #[]]) (by simp) (by simp [go_sem]) ?_
    refine (ecaught_noop ⟨H + 1, 0, none⟩ 0 X [] _ (E0.out.cell 0) (E0.out.frozen 0)).mono ?_
    rintro en u' w'' ⟨rfl, rfl, hw⟩
    have ye : w''.cell? ⟨H + 1, 0, none⟩ = some (.int .i64 X) := by rw [hw]; exact (E0.out.set_ 0 _).cell 0
    have BB := Lib.hid (show Below w.heap.size w w'' from by rw [hw]; exact (below_step B1.out B0.out).setCell (by show w.heap.size ≤ H + 1; have := HHS.out; omega) _)
    simp at hv
    simp [Leaves, settle, results, Try.results33, go_sem, hv, ye]
    exact BB.out
  refine wp_region_held_drew (S := fun w' => Below W1.heap.size W1 w') (by kernel_rfl) (by rw [← hw0]; exact B0.out) (fun hHeld => ?_)
  rw [← hw0]
  clear hw0 hHeld b0
  have hHeld := B0.out
  refine wpAnyH_take (i := 0) (oi := ⟨some 7, _, _, _, _, _⟩) (v := .slice A n cp) rfl (by kernel_rfl) (by kernel_rfl) (by kernel_rfl) (normOr_put (k := 6) (d := 7) (by decide)) (Or.inl ⟨by rfl, fun W hW => (by rfl)⟩) (by assumption) ?_
  try simp only [Act.put, List.setIfInBounds_toArray, List.set_cons_zero, List.set_cons_succ]
  refine wpAnyH_take (i := 1) (oi := ⟨some 8, _, _, _, _, _⟩) (v := .agg #[.int .i64 0, .int .i64 6, .int .i64 3]) rfl (by kernel_rfl) (by kernel_rfl) (by kernel_rfl) (normOr_put (k := 6) (d := 8) (by decide)) (Or.inl ⟨by rfl, fun W hW => (by go_simp)⟩) (by assumption) ?_
  try simp only [Act.put, List.setIfInBounds_toArray, List.set_cons_zero, List.set_cons_succ]
  refine wpAnyH_take (i := 2) (oi := ⟨some 9, _, _, _, _, _⟩) (v := .int .u8 1) rfl (by kernel_rfl) (by kernel_rfl) (by kernel_rfl) (normOr_put (k := 6) (d := 9) (by decide)) (Or.inl ⟨by rfl, fun W hW => (by rfl)⟩) (by assumption) ?_
  try simp only [Act.put, List.setIfInBounds_toArray, List.set_cons_zero, List.set_cons_succ]
  refine wpAnyH_take (i := 3) (oi := ⟨some 10, _, _, _, _, _⟩) (v := .int .i64 6) rfl (by kernel_rfl) (by kernel_rfl) (by kernel_rfl) (normOr_put (k := 6) (d := 10) (by decide)) (Or.inl ⟨by rfl, fun W hW => (by kernel_rfl)⟩) (by assumption) ?_
  try simp only [Act.put, List.setIfInBounds_toArray, List.set_cons_zero, List.set_cons_succ]
  refine wpAnyH_take (i := 4) (oi := ⟨some 11, _, _, _, _, _⟩) (v := .pointer (some ⟨H, 9, none⟩)) rfl (by kernel_rfl) (by kernel_rfl) (by kernel_rfl) (normOr_put (k := 6) (d := 11) (by decide)) (Or.inl ⟨by rfl, fun W hW => (by go_simp)⟩) (by assumption) ?_
  try simp only [Act.put, List.setIfInBounds_toArray, List.set_cons_zero, List.set_cons_succ]
  refine wpAnyH_take (i := 5) (oi := ⟨some 12, _, _, _, _, _⟩) (v := .int .u8 c.gen) rfl (by kernel_rfl) (by kernel_rfl) (by kernel_rfl) (normOr_put (k := 6) (d := 12) (by decide)) (Or.inl ⟨by rfl, fun W hW => (by have q := HS9.out W hW; go_simp)⟩) (by assumption) ?_
  try simp only [Act.put, List.setIfInBounds_toArray, List.set_cons_zero, List.set_cons_succ]
  refine wpAnyH_take (i := 6) (oi := ⟨some 13, _, _, _, _, _⟩) (v := .int .u8 1) rfl (by kernel_rfl) (by kernel_rfl) (by kernel_rfl) (normOr_put (k := 6) (d := 13) (by decide)) (Or.inl ⟨by rfl, fun W hW => (by rfl)⟩) (by assumption) ?_
  try simp only [Act.put, List.setIfInBounds_toArray, List.set_cons_zero, List.set_cons_succ]
  refine wpAnyH_take (i := 7) (oi := ⟨some 14, _, _, _, _, _⟩) (v := .int .u8 1) rfl (by kernel_rfl) (by kernel_rfl) (by kernel_rfl) (normOr_put (k := 6) (d := 14) (by decide)) (Or.inl ⟨by rfl, fun W hW => (by go_simp)⟩) (by assumption) ?_
  try simp only [Act.put, List.setIfInBounds_toArray, List.set_cons_zero, List.set_cons_succ]
  refine wpAnyH_take (i := 8) (oi := ⟨some 15, _, _, _, _, _⟩) (v := .int .u8 ((c.gen + 1) % 256)) rfl (by kernel_rfl) (by kernel_rfl) (by kernel_rfl) (normOr_put (k := 6) (d := 15) (by decide)) (Or.inl ⟨by rfl, fun W hW => (by go_simp)⟩) (by assumption) ?_
  try simp only [Act.put, List.setIfInBounds_toArray, List.set_cons_zero, List.set_cons_succ]
  refine wpAnyH_ready (rs := [9]) (by kernel_rfl) (by simp) ?_
  refine AllReadyH.cons (o := ⟨some 16, _, _, _, _, _⟩) rfl (fun K hK => ?_) AllReadyH.nil
  rw [if_pos (by rfl)]
  go_simp
  refine (HA.out H w0 K0.out R0.out).mono ?_
  rintro e wq ⟨he, hq⟩
  obtain rfl := hq.symm
  unfold acEnd at he
  by_cases h0 : X = 0
  · rw [if_pos h0] at he
    subst he
    dsimp only
    refine hK.out _ _ hHeld (fun hHeld => ?_)
    clear hK K
    try simp only [Act.put, List.setIfInBounds_toArray, List.set_cons_zero, List.set_cons_succ]
    refine wpAnyH_done (by kernel_rfl) ?_ _
    show Exit.then _ (fun _ _ _ => True) .normal _ _
    have ce : w0.cell? ⟨H + 1, 0, none⟩ = some (.int .i64 0) := E0.out.cell 0
    have fe : w0.frozen? ⟨H + 1, 0, none⟩ = false := E0.out.frozen 0
    go_wp2
    have EE := Lib.hid (E0.out.set_ 0 (.int .i64 0))
    have BB := Lib.hid (show Below w.heap.size w (w0.setCell ⟨H + 1, 0, none⟩ (.int .i64 0)) from (below_step B1.out B0.out).setCell (by show w.heap.size ≤ H + 1; have := HHS.out; omega) _)
    refine leaves_cons (f := 29) (args := #[.pointer (some ⟨H + 1, 0, none⟩), .func (.func 54) #[] #[]]) (by simp) (by simp [go_sem]) ?_
    refine (ecaught_idle _ _ _).mono ?_
    rintro en u' w'' ⟨rfl, rfl, hw⟩
    rw [← hw] at EE BB
    have ye : w''.cell? ⟨H + 1, 0, none⟩ = some (.int .i64 0) := EE.out.cell 0
    clear hw
    simp [Leaves, settle, results, Try.results33, go_sem, ye]
    exact BB.out
  · rw [if_neg h0] at he
    subst he
    exact ⟨h0, rfl, rfl, rfl, rfl⟩
set_option maxRecDepth 100000 in
set_option maxHeartbeats 1600000 in
theorem checked2_ok (c : Ec) (A : Option Addr) (n cp : Nat) (z : Nat → Int) (hn : 2 < n) (hm : n ≤ maxLen) (hz : ∀ j, j < n → 0 ≤ z j ∧ z j < 256) (hg : 0 ≤ c.gen ∧ c.gen < 256) (w : World) (hr : Row w w.heap.size A n (fun j => .int .u8 (z j))) :
    Calls Try.prog 33 #[.agg c.arr, .int .u8 2, .slice A n cp] w fun e w' => e = .returned (.int .i64 (acErr c n z 3 (c.gen))) ∧ Below w.heap.size w w' := by
  have HA := Lib.hid (fun (kb : Nat) (W : World) (hK : KB W kb c) (hR : Row W W.heap.size A n (fun j => .int .u8 (z j))) => accepts_ok kb c A n cp z 3 (c.gen) hn hm (by decide) hz W hK hR)
  have HR := Lib.hid hr
  obtain ⟨X, hX⟩ : ∃ X, X = acErr c n z 3 (c.gen) := ⟨_, rfl⟩
  rw [← hX] at HA ⊢
  have gw : IntKind.u8.wrap c.gen = c.gen := by rw [IntKind.wrap_u8]; try omega
  have ha : bits .and .u8 2 1 = 0 := by decide
  have hmf : ∀ (fn : Fn) (first cap : Array Value) (w : World), (Instr.makeFunc fn first cap).run Try.prog w = .ok (.func fn first cap) w := fun _ _ _ _ => rfl
  obtain ⟨H, hH⟩ : ∃ H, H = w.heap.size := ⟨_, rfl⟩
  clear hr hX hz
  unfold Ec.arr
  go_enter_defers Try.func33, Try.ntmps33
  go_upto_region 2 with (fail)
  refine wp_world (fun W => KB W H c ∧ Blk W (H + 1) 28 #[.int .i64 0] ∧ Below w.heap.size w W) ⟨by rw [hH]; exact (Blk.new _ _ _).alloc _, by rw [hH]; exact blk_new_at _ _ _ _ (by simp), ((Below.refl _ w).alloc (Nat.le_refl _) _).alloc (by simp) _⟩ ?_
  rw [← hH]
  rintro W1 ⟨k1', e1, b1⟩
  have K1 := Lib.hid k1'
  have E1 := Lib.hid e1
  have B1 := Lib.hid (show Below w.heap.size w W1 from by rw [← hH]; exact b1)
  have R1 := Lib.hid (HR.out.next B1.out)
  have hh : H + 1 < W1.heap.size := e1.lt
  have HHS := Lib.hid hH
  clear k1' e1 b1 hH
  obtain ⟨w0, hw0⟩ : ∃ w0, w0 = W1.drew := ⟨_, rfl⟩
  have b0 : Below W1.heap.size W1 w0 := by rw [hw0]; exact (Below.refl _ W1).drew
  have B0 := Lib.hid b0
  have K0 := Lib.hid (show KB w0 H c from Blk.below K1.out B0.out K1.out.lt)
  have E0 := Lib.hid (E1.out.below B0.out hh)
  have R0 := Lib.hid (R1.out.next B0.out)
  have HS9 := Lib.hid (show ∀ W, Below W1.heap.size W1 W → W.cell? ⟨H, 9, none⟩ = some (.int .u8 c.gen) from fun W hW => (Blk.below K1.out hW K1.out.lt).cell 9)
  refine wp_normOr (fun ch ds v W => X ≠ 0 ∧ ch = [{ v := .iface 28 (.int .i64 X), recovered := false }] ∧ ds = [{ target := .fn (.func 29) #[], args := #[.pointer (some ⟨H + 1, 0, none⟩), .func (.func 54) #[] #[]] }] ∧ v = .pointer (some ⟨H + 1, 0, none⟩) ∧ W = w0) 6 ?_ ?_
  · rintro _ a _ ⟨_, rfl, hds, hv, rfl⟩
    show Leaves _ _ _ _ a.defers _ _
    rw [hds]
    refine leaves_cons (f := 29) (args := #[.pointer (some ⟨H + 1, 0, none⟩), .func (.func 54) #[] #[]]) (by simp) (by simp [go_sem]) ?_
    refine (ecaught_noop ⟨H + 1, 0, none⟩ 0 X [] _ (E0.out.cell 0) (E0.out.frozen 0)).mono ?_
    rintro en u' w'' ⟨rfl, rfl, hw⟩
    have ye : w''.cell? ⟨H + 1, 0, none⟩ = some (.int .i64 X) := by rw [hw]; exact (E0.out.set_ 0 _).cell 0
    have BB := Lib.hid (show Below w.heap.size w w'' from by rw [hw]; exact (below_step B1.out B0.out).setCell (by show w.heap.size ≤ H + 1; have := HHS.out; omega) _)
    simp at hv
    simp [Leaves, settle, results, Try.results33, go_sem, hv, ye]
    exact BB.out
  refine wp_region_held_drew (S := fun w' => Below W1.heap.size W1 w') (by kernel_rfl) (by rw [← hw0]; exact B0.out) (fun hHeld => ?_)
  rw [← hw0]
  clear hw0 hHeld b0
  have hHeld := B0.out
  refine wpAnyH_take (i := 0) (oi := ⟨some 7, _, _, _, _, _⟩) (v := .slice A n cp) rfl (by kernel_rfl) (by kernel_rfl) (by kernel_rfl) (normOr_put (k := 6) (d := 7) (by decide)) (Or.inl ⟨by rfl, fun W hW => (by rfl)⟩) (by assumption) ?_
  try simp only [Act.put, List.setIfInBounds_toArray, List.set_cons_zero, List.set_cons_succ]
  refine wpAnyH_take (i := 1) (oi := ⟨some 8, _, _, _, _, _⟩) (v := .agg #[.int .i64 0, .int .i64 6, .int .i64 3]) rfl (by kernel_rfl) (by kernel_rfl) (by kernel_rfl) (normOr_put (k := 6) (d := 8) (by decide)) (Or.inl ⟨by rfl, fun W hW => (by go_simp)⟩) (by assumption) ?_
  try simp only [Act.put, List.setIfInBounds_toArray, List.set_cons_zero, List.set_cons_succ]
  refine wpAnyH_take (i := 2) (oi := ⟨some 9, _, _, _, _, _⟩) (v := .int .u8 2) rfl (by kernel_rfl) (by kernel_rfl) (by kernel_rfl) (normOr_put (k := 6) (d := 9) (by decide)) (Or.inl ⟨by rfl, fun W hW => (by rfl)⟩) (by assumption) ?_
  try simp only [Act.put, List.setIfInBounds_toArray, List.set_cons_zero, List.set_cons_succ]
  refine wpAnyH_take (i := 3) (oi := ⟨some 10, _, _, _, _, _⟩) (v := .int .i64 3) rfl (by kernel_rfl) (by kernel_rfl) (by kernel_rfl) (normOr_put (k := 6) (d := 10) (by decide)) (Or.inl ⟨by rfl, fun W hW => (by kernel_rfl)⟩) (by assumption) ?_
  try simp only [Act.put, List.setIfInBounds_toArray, List.set_cons_zero, List.set_cons_succ]
  refine wpAnyH_take (i := 4) (oi := ⟨some 11, _, _, _, _, _⟩) (v := .pointer (some ⟨H, 9, none⟩)) rfl (by kernel_rfl) (by kernel_rfl) (by kernel_rfl) (normOr_put (k := 6) (d := 11) (by decide)) (Or.inl ⟨by rfl, fun W hW => (by go_simp)⟩) (by assumption) ?_
  try simp only [Act.put, List.setIfInBounds_toArray, List.set_cons_zero, List.set_cons_succ]
  refine wpAnyH_take (i := 5) (oi := ⟨some 12, _, _, _, _, _⟩) (v := .int .u8 c.gen) rfl (by kernel_rfl) (by kernel_rfl) (by kernel_rfl) (normOr_put (k := 6) (d := 12) (by decide)) (Or.inl ⟨by rfl, fun W hW => (by have q := HS9.out W hW; go_simp)⟩) (by assumption) ?_
  try simp only [Act.put, List.setIfInBounds_toArray, List.set_cons_zero, List.set_cons_succ]
  refine wpAnyH_take (i := 6) (oi := ⟨some 13, _, _, _, _, _⟩) (v := .int .u8 2) rfl (by kernel_rfl) (by kernel_rfl) (by kernel_rfl) (normOr_put (k := 6) (d := 13) (by decide)) (Or.inl ⟨by rfl, fun W hW => (by rfl)⟩) (by assumption) ?_
  try simp only [Act.put, List.setIfInBounds_toArray, List.set_cons_zero, List.set_cons_succ]
  refine wpAnyH_take (i := 7) (oi := ⟨some 14, _, _, _, _, _⟩) (v := .int .u8 0) rfl (by kernel_rfl) (by kernel_rfl) (by kernel_rfl) (normOr_put (k := 6) (d := 14) (by decide)) (Or.inl ⟨by rfl, fun W hW => (by go_simp)⟩) (by assumption) ?_
  try simp only [Act.put, List.setIfInBounds_toArray, List.set_cons_zero, List.set_cons_succ]
  refine wpAnyH_take (i := 8) (oi := ⟨some 15, _, _, _, _, _⟩) (v := .int .u8 (c.gen)) rfl (by kernel_rfl) (by kernel_rfl) (by kernel_rfl) (normOr_put (k := 6) (d := 15) (by decide)) (Or.inl ⟨by rfl, fun W hW => (by go_simp)⟩) (by assumption) ?_
  try simp only [Act.put, List.setIfInBounds_toArray, List.set_cons_zero, List.set_cons_succ]
  refine wpAnyH_ready (rs := [9]) (by kernel_rfl) (by simp) ?_
  refine AllReadyH.cons (o := ⟨some 16, _, _, _, _, _⟩) rfl (fun K hK => ?_) AllReadyH.nil
  rw [if_pos (by rfl)]
  go_simp
  refine (HA.out H w0 K0.out R0.out).mono ?_
  rintro e wq ⟨he, hq⟩
  obtain rfl := hq.symm
  unfold acEnd at he
  by_cases h0 : X = 0
  · rw [if_pos h0] at he
    subst he
    dsimp only
    refine hK.out _ _ hHeld (fun hHeld => ?_)
    clear hK K
    try simp only [Act.put, List.setIfInBounds_toArray, List.set_cons_zero, List.set_cons_succ]
    refine wpAnyH_done (by kernel_rfl) ?_ _
    show Exit.then _ (fun _ _ _ => True) .normal _ _
    have ce : w0.cell? ⟨H + 1, 0, none⟩ = some (.int .i64 0) := E0.out.cell 0
    have fe : w0.frozen? ⟨H + 1, 0, none⟩ = false := E0.out.frozen 0
    go_wp2
    have EE := Lib.hid (E0.out.set_ 0 (.int .i64 0))
    have BB := Lib.hid (show Below w.heap.size w (w0.setCell ⟨H + 1, 0, none⟩ (.int .i64 0)) from (below_step B1.out B0.out).setCell (by show w.heap.size ≤ H + 1; have := HHS.out; omega) _)
    refine leaves_cons (f := 29) (args := #[.pointer (some ⟨H + 1, 0, none⟩), .func (.func 54) #[] #[]]) (by simp) (by simp [go_sem]) ?_
    refine (ecaught_idle _ _ _).mono ?_
    rintro en u' w'' ⟨rfl, rfl, hw⟩
    rw [← hw] at EE BB
    have ye : w''.cell? ⟨H + 1, 0, none⟩ = some (.int .i64 0) := EE.out.cell 0
    clear hw
    simp [Leaves, settle, results, Try.results33, go_sem, ye]
    exact BB.out
  · rw [if_neg h0] at he
    subst he
    exact ⟨h0, rfl, rfl, rfl, rfl⟩
end Go.Proofs.Ytofaghpflmeblaa
