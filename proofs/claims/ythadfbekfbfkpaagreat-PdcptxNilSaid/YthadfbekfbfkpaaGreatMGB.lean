/- AES-128 in plain Lean: the program's way of computing it. No program in sight. AES-128: the program's small functions. AES-128: the boxes. reading an element of an array value. AES-128: substitution(). AES-128: the round keys in memory. AES-128: the closures of the steps. AES-128: the closure of add. AES-128: the closure of mixed. A loop over an iterator that never ends by itself: the loop's body has to leave it. Counter mode and message codes in plain Lean: the program's way of computing them. No program in sight. -/
import Derived.Test.YthadfbekfbfkpaaGreatMGA
import Derived.Laws.BitsAllLaws
import Derived.Deep.RegionHeld3
import Derived.Deep.DrawnRows
import Derived.Deep.RegionWith
import Derived.Deep.DeepCutAuto
import Derived.Deep.CutRange
import Derived.Deep.CutBlock
import Derived.RangeFuncWrites
import Derived.OrdersHeld
import Derived.OrdersIn
import Derived.RangeFuncCalls
namespace Go.Proofs.YthadfbekfbfkpaaGreat
open Go
set_option linter.unusedVariables false

/-- the product with 2; the powers of 3 -/
def dbl (a : Nat) : Nat := (a * 2 % 256) ^^^ (a / 128 * 27 % 256)
theorem xor_lt {a b : Nat} (ha : a < 256) (hb : b < 256) : a ^^^ b < 256 := Nat.xor_lt_two_pow (n := 8) ha hb
theorem dbl_lt (a : Nat) : dbl a < 256 := xor_lt (Nat.mod_lt _ (by decide)) (Nat.mod_lt _ (by decide))
def pw3 : Nat → Nat
  | 0 => 1
  | i + 1 => pw3 i ^^^ dbl (pw3 i)
theorem pw3_lt : ∀ i, pw3 i < 256
  | 0 => by decide
  | i + 1 => xor_lt (pw3_lt i) (dbl_lt _)
/-- the product of two field elements, as the loop runs -/
def mulF : Nat → Nat → Nat → Nat → Nat
  | 0, _, _, p => p
  | f + 1, a, b, p => if b = 0 then p else mulF f (dbl a) (b / 2) (p ^^^ (b % 2 * a % 256))
def gmul (a b : Nat) : Nat := mulF 8 a b 0
theorem mulF_lt : ∀ f a b p, p < 256 → mulF f a b p < 256
  | 0, _, _, p, h => h
  | f + 1, a, b, p, h => by
    rw [mulF]
    split
    · exact h
    · exact mulF_lt f _ _ _ (xor_lt h (Nat.mod_lt _ (by decide)))
theorem gmul_lt (a b : Nat) : gmul a b < 256 := mulF_lt 8 a b 0 (by decide)
theorem mulF_zero : ∀ f a p, mulF f a 0 p = p
  | 0, _, _ => rfl
  | f + 1, a, p => by rw [mulF, if_pos rfl]
/-- enough rounds are enough -/
theorem mulF_enough : ∀ f g a b p, b < 2 ^ f → f ≤ g → mulF g a b p = mulF f a b p
  | 0, g, a, b, p, hb, _ => by
    obtain rfl : b = 0 := by omega
    rw [mulF_zero, mulF_zero]
  | f + 1, 0, a, b, p, hb, h => by omega
  | f + 1, g + 1, a, b, p, hb, h => by
    rw [mulF, mulF]
    split
    · rfl
    · exact mulF_enough f g _ _ _ (by rw [Nat.pow_succ] at hb; omega) (by omega)
/-- one round of the loop -/
theorem mulF_step (k a b p : Nat) (hb : b < 2 ^ (k + 1)) (h0 : b ≠ 0) : mulF (k + 1) a b p = mulF k (dbl a) (b / 2) (p ^^^ (b % 2 * a % 256)) := by rw [mulF, if_neg h0]
/-- rotation to the left; the affine map -/
def rl8 (x k : Nat) : Nat := (x * 2 ^ k % 256) ||| (x / 2 ^ (8 - k))
theorem rl8_lt (x k : Nat) (hx : x < 256) : rl8 x k < 256 := by
  unfold rl8
  exact Nat.or_lt_two_pow (n := 8) (Nat.mod_lt _ (by decide)) (Nat.lt_of_le_of_lt (Nat.div_le_self _ _) hx)
def aff (x : Nat) : Nat := x ^^^ rl8 x 1 ^^^ rl8 x 2 ^^^ rl8 x 3 ^^^ rl8 x 4 ^^^ 99
theorem aff_lt (x : Nat) (hx : x < 256) : aff x < 256 := by
  unfold aff
  exact xor_lt (xor_lt (xor_lt (xor_lt (xor_lt hx (rl8_lt _ _ hx)) (rl8_lt _ _ hx)) (rl8_lt _ _ hx)) (rl8_lt _ _ hx)) (by decide)
/-- a function changed at one place -/
def upd (f : Nat → Nat) (i v : Nat) : Nat → Nat := fun j => if j = i then v else f j
theorem upd_lt {f : Nat → Nat} {i v : Nat} (hf : ∀ j, f j < 256) (hv : v < 256) : ∀ j, upd f i v j < 256 := fun j => by
  unfold upd
  split
  · exact hv
  · exact hf j
/-- the boxes behind k rounds -/
def boxK : Nat → Nat → Nat
  | 0 => upd (fun _ => 0) 0 (aff 0)
  | k + 1 => upd (boxK k) (pw3 k) (aff (pw3 ((255 - k) % 255)))
def invK : Nat → Nat → Nat
  | 0 => upd (fun _ => 0) (aff 0) 0
  | k + 1 => upd (invK k) (aff (pw3 ((255 - k) % 255))) (pw3 k)
theorem boxK_lt : ∀ k j, boxK k j < 256
  | 0 => upd_lt (fun _ => by decide) (aff_lt 0 (by decide))
  | k + 1 => upd_lt (boxK_lt k) (aff_lt _ (pw3_lt _))
theorem invK_lt : ∀ k j, invK k j < 256
  | 0 => upd_lt (fun _ => by decide) (by decide)
  | k + 1 => upd_lt (invK_lt k) (pw3_lt _)
def sbx : Nat → Nat := boxK 255
def isb : Nat → Nat := invK 255
theorem pw3_ne : ∀ i, i < 255 → pw3 i ≠ 0 := by decide +kernel
theorem sbx_zero : sbx 0 = 99 := by
  have h : ∀ k, k ≤ 255 → boxK k 0 = 99 := by
    intro k
    induction k with
    | zero => intro _; decide
    | succ k ih =>
      intro hk
      rw [boxK, upd, if_neg (fun e => pw3_ne k (by omega) e.symm)]
      exact ih (by omega)
  exact h 255 (Nat.le_refl _)
/-- the round keys: a row out of the row before -/
def rowC (box : Nat → Nat) (L : Nat → Nat) (p : Nat) : Nat → Nat → Nat
  | 0, r => if r = 0 then L 0 ^^^ box (L 13) ^^^ p else L r ^^^ box (L (12 + (r + 1) % 4))
  | c + 1, r => L (4 * (c + 1) + r) ^^^ rowC box L p c r
def pw2 : Nat → Nat
  | 0 => 1
  | n + 1 => dbl (pw2 n)
theorem pw2_lt : ∀ n, pw2 n < 256
  | 0 => by decide
  | n + 1 => dbl_lt _
def sched (box : Nat → Nat) (key : Nat → Nat) : Nat → Nat → Nat
  | 0, i => key i
  | n + 1, i => rowC box (sched box key n) (pw2 n) (i / 4) (i % 4)
theorem rowC_lt {box L : Nat → Nat} {p : Nat} (hb : ∀ j, box j < 256) (hL : ∀ j, j < 16 → L j < 256) (hp : p < 256) : ∀ c r, c < 4 → r < 4 → rowC box L p c r < 256
  | 0, r, _, hr => by
    rw [rowC]
    split
    · exact xor_lt (xor_lt (hL 0 (by decide)) (hb _)) hp
    · exact xor_lt (hL r (by omega)) (hb _)
  | c + 1, r, hc, hr => by
    rw [rowC]
    exact xor_lt (hL _ (by omega)) (rowC_lt hb hL hp c r (by omega) hr)
theorem sched_lt {box key : Nat → Nat} (hb : ∀ j, box j < 256) (hk : ∀ j, j < 16 → key j < 256) : ∀ n i, i < 16 → sched box key n i < 256
  | 0, i, hi => hk i hi
  | n + 1, i, hi => rowC_lt hb (sched_lt hb hk n) (pw2_lt n) _ _ (by omega) (by omega)
/-- an entry out of those before it, as the program computes it -/
theorem sched_first (box key : Nat → Nat) (n : Nat) : sched box key (n + 1) 0 = sched box key n 0 ^^^ box (sched box key n 13) ^^^ pw2 n := by simp [sched, rowC]
theorem sched_head (box key : Nat → Nat) (n i : Nat) (h0 : i ≠ 0) (h4 : i < 4) : sched box key (n + 1) i = sched box key n i ^^^ box (sched box key n (12 + (i + 1) % 4)) := by
  rw [sched, Nat.div_eq_of_lt h4, Nat.mod_eq_of_lt h4, rowC, if_neg h0]
theorem sched_tail (box key : Nat → Nat) (n i : Nat) (h4 : 4 ≤ i) : sched box key (n + 1) i = sched box key n i ^^^ sched box key (n + 1) (i - 4) := by
  obtain ⟨c, hc⟩ : ∃ c, i / 4 = c + 1 := ⟨i / 4 - 1, by omega⟩
  have h1 : (i - 4) / 4 = c := by omega
  have h2 : (i - 4) % 4 = i % 4 := by omega
  have h3 : 4 * (c + 1) + i % 4 = i := by omega
  rw [sched, sched, hc, h1, h2, rowC, h3]
/-- the steps of a round -/
def sSub (b : Nat → Nat) : Nat → Nat := fun i => sbx (b i)
def sShift (b : Nat → Nat) : Nat → Nat := fun i => b ((i + 4 * (i % 4)) % 16)
def mixAt (b : Nat → Nat) (i : Nat) : Nat := 0 ^^^ gmul 2 (b (i / 4 * 4 + (i + 0) % 4)) ^^^ gmul 3 (b (i / 4 * 4 + (i + 1) % 4)) ^^^ gmul 1 (b (i / 4 * 4 + (i + 2) % 4)) ^^^ gmul 1 (b (i / 4 * 4 + (i + 3) % 4))
def sMix (n : Nat) (b : Nat → Nat) : Nat → Nat := if n = 10 then b else fun i => mixAt b i
def sAdd (keys : Nat → Nat → Nat) (n : Nat) (b : Nat → Nat) : Nat → Nat := fun i => b i ^^^ keys n i
def sRound (keys : Nat → Nat → Nat) (n : Nat) (b : Nat → Nat) : Nat → Nat := sAdd keys n (sMix n (sShift (sSub b)))
def sRounds (keys : Nat → Nat → Nat) (b : Nat → Nat) : Nat → Nat → Nat
  | 0 => sAdd keys 0 b
  | n + 1 => sRound keys (n + 1) (sRounds keys b n)
/-- AES-128 -/
def aesF (key b : Nat → Nat) : Nat → Nat := sRounds (sched sbx key) b 10
def B16 (b : Nat → Nat) : Prop := ∀ j, j < 16 → b j < 256
theorem sSub_lt (b : Nat → Nat) : B16 (sSub b) := fun j _ => boxK_lt 255 _
theorem sShift_lt {b : Nat → Nat} (h : B16 b) : B16 (sShift b) := fun j _ => h _ (Nat.mod_lt _ (by decide))
theorem sMix_lt {b : Nat → Nat} (n : Nat) (h : B16 b) : B16 (sMix n b) := fun j hj => by
  unfold sMix
  split
  · exact h j hj
  · exact xor_lt (xor_lt (xor_lt (xor_lt (by decide) (gmul_lt _ _)) (gmul_lt _ _)) (gmul_lt _ _)) (gmul_lt _ _)
theorem sAdd_lt {keys : Nat → Nat → Nat} (n : Nat) {b : Nat → Nat} (hk : B16 (keys n)) (h : B16 b) : B16 (sAdd keys n b) := fun j hj => xor_lt (h j hj) (hk j hj)
theorem sRounds_lt {keys : Nat → Nat → Nat} {b : Nat → Nat} (hk : ∀ n, B16 (keys n)) (h : B16 b) : ∀ n, B16 (sRounds keys b n)
  | 0 => sAdd_lt 0 (hk 0) h
  | n + 1 => sAdd_lt (n + 1) (hk _) (sMix_lt _ (sShift_lt (sSub_lt _)))
theorem aesF_lt {key b : Nat → Nat} (hk : B16 key) (h : B16 b) : B16 (aesF key b) := sRounds_lt (fun n i hi => sched_lt (boxK_lt 255) hk n i hi) h 10
end Go.Proofs.YthadfbekfbfkpaaGreat
namespace Go.Proofs.YthadfbekfbfkpaaGreat
open Go.RowKit
set_option linter.unusedVariables false

theorem bx (a b c : Nat) (ha : a < 256) (hb : b < 256) (hc : a ^^^ b = c) : bits .xor .u8 (a : Int) (b : Int) = (c : Int) := by rw [u8_xor_nat a b ha hb, hc]
theorem double_ok (a : Nat) (ha : a < 256) (w : World) : Calls Tryz.prog 283 #[.int .u8 a] w fun e w' => e = .returned (.int .u8 (dbl a : Nat)) ∧ w = w' := by
  have hx : bits .xor .u8 ((a : Int) * 2 % 256) ((a : Int) / 128 * 27) = ((dbl a : Nat) : Int) := by
    rw [show ((a : Int) * 2 % 256) = ((a * 2 % 256 : Nat) : Int) by omega, show ((a : Int) / 128 * 27) = ((a / 128 * 27 % 256 : Nat) : Int) by omega]
    exact bx _ _ _ (Nat.mod_lt _ (by decide)) (Nat.mod_lt _ (by decide)) rfl
  go_enter Tryz.func283, Tryz.ntmps283
  go_wp2
  go_ret
  exact ⟨rfl, rfl⟩
theorem rotl1_ok (a : Nat) (ha : a < 256) (w : World) : Calls Tryz.prog 282 #[.int .u8 a, .int .i64 1] w fun e w' => e = .returned (.int .u8 (rl8 a 1 : Nat)) ∧ w = w' := by
  have hb : bits BinOp.and IntKind.u64 1 7 = 1 := by decide
  have hx : bits .or .u8 ((a : Int) * 2 % 256) ((a : Int) / 128) = ((rl8 a 1 : Nat) : Int) := by
    rw [show ((a : Int) * 2 % 256) = ((a * 2 % 256 : Nat) : Int) by omega, show ((a : Int) / 128) = ((a / 128 : Nat) : Int) by omega, u8_or_nat _ _ (Nat.mod_lt _ (by decide)) (by omega)]
    rfl
  go_enter Tryz.func282, Tryz.ntmps282
  go_wp2
  go_ret
  exact ⟨rfl, rfl⟩
theorem rotl2_ok (a : Nat) (ha : a < 256) (w : World) : Calls Tryz.prog 282 #[.int .u8 a, .int .i64 2] w fun e w' => e = .returned (.int .u8 (rl8 a 2 : Nat)) ∧ w = w' := by
  have hb : bits BinOp.and IntKind.u64 2 7 = 2 := by decide
  have hx : bits .or .u8 ((a : Int) * 4 % 256) ((a : Int) / 64) = ((rl8 a 2 : Nat) : Int) := by
    rw [show ((a : Int) * 4 % 256) = ((a * 4 % 256 : Nat) : Int) by omega, show ((a : Int) / 64) = ((a / 64 : Nat) : Int) by omega, u8_or_nat _ _ (Nat.mod_lt _ (by decide)) (by omega)]
    rfl
  go_enter Tryz.func282, Tryz.ntmps282
  go_wp2
  go_ret
  exact ⟨rfl, rfl⟩
theorem rotl3_ok (a : Nat) (ha : a < 256) (w : World) : Calls Tryz.prog 282 #[.int .u8 a, .int .i64 3] w fun e w' => e = .returned (.int .u8 (rl8 a 3 : Nat)) ∧ w = w' := by
  have hb : bits BinOp.and IntKind.u64 3 7 = 3 := by decide
  have hx : bits .or .u8 ((a : Int) * 8 % 256) ((a : Int) / 32) = ((rl8 a 3 : Nat) : Int) := by
    rw [show ((a : Int) * 8 % 256) = ((a * 8 % 256 : Nat) : Int) by omega, show ((a : Int) / 32) = ((a / 32 : Nat) : Int) by omega, u8_or_nat _ _ (Nat.mod_lt _ (by decide)) (by omega)]
    rfl
  go_enter Tryz.func282, Tryz.ntmps282
  go_wp2
  go_ret
  exact ⟨rfl, rfl⟩
theorem rotl4_ok (a : Nat) (ha : a < 256) (w : World) : Calls Tryz.prog 282 #[.int .u8 a, .int .i64 4] w fun e w' => e = .returned (.int .u8 (rl8 a 4 : Nat)) ∧ w = w' := by
  have hb : bits BinOp.and IntKind.u64 4 7 = 4 := by decide
  have hx : bits .or .u8 ((a : Int) * 16 % 256) ((a : Int) / 16) = ((rl8 a 4 : Nat) : Int) := by
    rw [show ((a : Int) * 16 % 256) = ((a * 16 % 256 : Nat) : Int) by omega, show ((a : Int) / 16) = ((a / 16 : Nat) : Int) by omega, u8_or_nat _ _ (Nat.mod_lt _ (by decide)) (by omega)]
    rfl
  go_enter Tryz.func282, Tryz.ntmps282
  go_wp2
  go_ret
  exact ⟨rfl, rfl⟩
theorem mul_ok (a b : Nat) (ha : a < 256) (hb : b < 256) (w : World) : Calls Tryz.prog 296 #[.int .u8 a, .int .u8 b] w fun e w' => e = .returned (.int .u8 (gmul a b : Nat)) ∧ w = w' := by
  have HD := Lib.hid (fun x hx => double_ok x hx w)
  go_enter Tryz.func296, Tryz.ntmps296
  go_wp2
  go_loop [0, 1, 4] (fun v0 v1 v4 => ∃ k a' b' p : Nat, a' < 256 ∧ b' < 2 ^ k ∧ k ≤ 8 ∧ p < 256 ∧ v0 = .int .u8 a' ∧ v1 = .int .u8 b' ∧ v4 = .int .u8 p ∧ mulF k a' b' p = gmul a b) (fun _ v1 _ => (intOf v1).toNat)
  case atStart => exact ⟨8, a, b, 0, ha, by simpa using hb, by omega, by omega, rfl, rfl, rfl, rfl⟩
  case round =>
    obtain ⟨k, a', b', p, h1, h2, h3, h4, rfl, rfl, rfl, h5⟩ := hrel
    have HE := Lib.hid h5
    by_cases h0 : b' = 0
    · subst h0
      have HE2 := Lib.hid (show p = gmul a b by rw [← h5, mulF_zero])
      clear h5
      go_wp2
      go_ret
      exact ⟨ret_int (by rw [HE2.out]), rfl⟩
    · obtain ⟨k, rfl⟩ : ∃ j, k = j + 1 := by
        cases k with
        | zero => simp at h2; omega
        | succ k => exact ⟨k, rfl⟩
      have hb8 : b' < 256 := by
        have : 2 ^ (k + 1) ≤ 2 ^ 8 := Nat.pow_le_pow_right (by decide) h3
        omega
      have h6 := mulF_step k a' b' p h2 h0
      have hne : ((b' : Int) != 0) = true := by simp; omega
      have hand : bits .and .u8 (b' : Int) 1 = ((b' % 2 : Nat) : Int) := by
        have := u8_and_nat b' 1 hb8 (by decide)
        rw [Nat.and_one_is_mod] at this
        exact this
      have hhalf : b' / 2 < 2 ^ k := by rw [Nat.pow_succ] at h2; omega
      have HH := Lib.hid hhalf
      have HN := Lib.hid (h6.symm.trans h5)
      clear h5 h6 h2 hhalf
      go_wp2_with (go_at_call 283; refine (HD.out a' h1).mono ?_; rintro e w2 ⟨rfl, rfl⟩)
      have hx : bits .xor .u8 (p : Int) ((b' : Int) % 2 * (a' : Int) % 256) = ((p ^^^ (b' % 2 * a' % 256) : Nat) : Int) := by
        rw [show ((b' : Int) % 2 * (a' : Int) % 256) = ((b' % 2 * a' % 256 : Nat) : Int) by rw [Int.natCast_emod, Int.natCast_mul, Int.natCast_emod]; rfl]
        exact bx _ _ _ h4 (Nat.mod_lt _ (by decide)) rfl
      refine ⟨⟨k, dbl a', b' / 2, p ^^^ (b' % 2 * a' % 256), dbl_lt _, HH.out, by omega, xor_lt h4 (Nat.mod_lt _ (by decide)), rfl, (by rw [Int.natCast_ediv]; rfl), by rw [hx], HN.out⟩, ?_⟩
      simp [intOf]
      omega
end Go.Proofs.YthadfbekfbfkpaaGreat
namespace Go.Proofs.YthadfbekfbfkpaaGreat
open Go.RowKit
set_option linter.unusedVariables false
attribute [local go_sem ↓] Go.wp_at_zero Go.wp_at_succ

/-- the two boxes in memory -/
def boxArr (f g : Nat → Nat) : Array Value := Array.ofFn (n := 512) fun j => .int .u8 ((if j.1 < 256 then f j.1 else g (j.1 - 256) : Nat) : Int)
theorem boxArr_size (f g : Nat → Nat) : (boxArr f g).size = 512 := by simp [boxArr]
theorem boxArr_at (f g : Nat → Nat) {j : Nat} (h : j < 512) : (boxArr f g)[j]? = some (.int .u8 ((if j < 256 then f j else g (j - 256) : Nat) : Int)) := by simp [boxArr, h]
theorem boxArr_low (f g : Nat → Nat) (i x : Nat) (hi : i < 256) : (boxArr f g).setIfInBounds i (.int .u8 (x : Int)) = boxArr (upd f i x) g := by
  apply Array.ext_getElem?
  intro j
  rw [Array.getElem?_setIfInBounds, boxArr_size]
  by_cases hj : j < 512
  · rw [boxArr_at _ _ hj, boxArr_at _ _ hj]
    by_cases e : i = j
    · subst e; rw [if_pos rfl, if_pos (by omega), if_pos hi]; simp [upd]
    · have e2 : ¬ j = i := fun h => e h.symm
      rw [if_neg e]; simp [upd, e2]
  · rw [if_neg (by omega), Array.getElem?_eq_none (by rw [boxArr_size]; omega), Array.getElem?_eq_none (by rw [boxArr_size]; omega)]
theorem boxArr_high (f g : Nat → Nat) (i x : Nat) (hi : i < 256) : (boxArr f g).setIfInBounds (256 + i) (.int .u8 (x : Int)) = boxArr f (upd g i x) := by
  apply Array.ext_getElem?
  intro j
  rw [Array.getElem?_setIfInBounds, boxArr_size]
  by_cases hj : j < 512
  · rw [boxArr_at _ _ hj, boxArr_at _ _ hj]
    by_cases e : 256 + i = j
    · subst e; rw [if_pos rfl, if_pos (by omega), if_neg (by omega)]; simp [upd]
    · rw [if_neg e]
      by_cases h8 : j < 256
      · rw [if_pos h8, if_pos h8]
      · have e2 : ¬ j - 256 = i := by omega
        rw [if_neg h8, if_neg h8]; simp [upd, e2]
  · rw [if_neg (by omega), Array.getElem?_eq_none (by rw [boxArr_size]; omega), Array.getElem?_eq_none (by rw [boxArr_size]; omega)]
set_option maxRecDepth 100000 in
theorem set_ok (i v : Nat) (hi : i < 256) (hv : v < 256) (sb : Nat) (f g : Nat → Nat) (w : World) (h : Blk w sb 355 (boxArr f g)) :
    Calls Tryz.prog 281 #[.int .u8 i, .int .u8 v, .pointer (some ⟨sb, 0, none⟩)] w fun e w' => e = .returned (.tuple #[]) ∧ Blk w' sb 355 (boxArr (upd f i (aff v)) (upd g (aff v) i)) ∧ KeepF (fun k => k = sb) w w' ∧ w'.heap.size = w.heap.size := by
  have H1 := Lib.hid (rotl1_ok v hv w)
  have H2 := Lib.hid (rotl2_ok v hv w)
  have H3 := Lib.hid (rotl3_ok v hv w)
  have H4 := Lib.hid (rotl4_ok v hv w)
  have l1 := rl8_lt v 1 hv
  have l2 := rl8_lt v 2 hv
  have l3 := rl8_lt v 3 hv
  have l4 := rl8_lt v 4 hv
  have m1 := xor_lt hv l1
  have m2 := xor_lt m1 l2
  have m3 := xor_lt m2 l3
  have m4 := xor_lt m3 l4
  have x1 := bx v (rl8 v 1) _ hv l1 rfl
  have x2 := bx _ (rl8 v 2) _ m1 l2 rfl
  have x3 := bx _ (rl8 v 3) _ m2 l3 rfl
  have x4 := bx _ (rl8 v 4) _ m3 l4 rfl
  have x5 : bits .xor .u8 ((v ^^^ rl8 v 1 ^^^ rl8 v 2 ^^^ rl8 v 3 ^^^ rl8 v 4 : Nat) : Int) 99 = ((aff v : Nat) : Int) := bx _ 99 (aff v) m4 (by decide) rfl
  obtain ⟨r1, hr1⟩ : ∃ r, r = rl8 v 1 := ⟨_, rfl⟩
  obtain ⟨r2, hr2⟩ : ∃ r, r = rl8 v 2 := ⟨_, rfl⟩
  obtain ⟨r3, hr3⟩ : ∃ r, r = rl8 v 3 := ⟨_, rfl⟩
  obtain ⟨r4, hr4⟩ : ∃ r, r = rl8 v 4 := ⟨_, rfl⟩
  obtain ⟨a, ha⟩ : ∃ a, a = aff v := ⟨_, rfl⟩
  have ha9 : a < 256 := by rw [ha]; exact aff_lt v hv
  rw [← hr1] at H1 x1 x2 x3 x4 x5
  rw [← hr2] at H2 x2 x3 x4 x5
  rw [← hr3] at H3 x3 x4 x5
  rw [← hr4] at H4 x4 x5
  rw [← ha] at x5 ⊢
  clear hr1 hr2 hr3 hr4 ha l1 l2 l3 l4 m1 m2 m3 m4
  generalize v ^^^ r1 = s1 at x1 x2 x3 x4 x5
  generalize s1 ^^^ r2 = s2 at x2 x3 x4 x5
  generalize s2 ^^^ r3 = s3 at x3 x4 x5
  generalize s3 ^^^ r4 = s4 at x4 x5
  have hb1 : Blk (w.setCell ⟨sb, i, none⟩ (.int .u8 a)) sb 355 (boxArr (upd f i a) g) := by
    rw [← boxArr_low f g i a hi]; exact h.set_ i _
  have hb2 : Blk ((w.setCell ⟨sb, i, none⟩ (.int .u8 a)).setCell ⟨sb, 256 + a, none⟩ (.int .u8 i)) sb 355 (boxArr (upd f i a) (upd g a i)) := by
    rw [← boxArr_high _ g a i ha9]; exact hb1.set_ (256 + a) _
  have c1 : w.cell? ⟨sb, i, none⟩ = some (.int .u8 (f i)) := by rw [h.cell, boxArr_at _ _ (by omega), if_pos hi]
  have c2 : w.cell? ⟨sb, 256 + a, none⟩ = some (.int .u8 (g a)) := by rw [h.cell, boxArr_at _ _ (by omega), if_neg (by omega), show 256 + a - 256 = a by omega]
  have f1 := h.frozen i
  have f2 := h.frozen (256 + a)
  have HB := Lib.hid hb2
  have i1 : (i : Int) < 256 := by omega
  have a1 : (a : Int) < 256 := by omega
  clear h hb1 hb2
  go_enter Tryz.func281, Tryz.ntmps281
  go_upto_region 1 with (first
    | (go_at_call 282; first
        | (with_reducible refine (H1.out).mono ?_; rintro e w2 ⟨rfl, rfl⟩)
        | (with_reducible refine (H2.out).mono ?_; rintro e w2 ⟨rfl, rfl⟩)
        | (with_reducible refine (H3.out).mono ?_; rintro e w2 ⟨rfl, rfl⟩)
        | (with_reducible refine (H4.out).mono ?_; rintro e w2 ⟨rfl, rfl⟩)))
  go_wp2
  refine bodyPost_end (results_none rfl _ _ _) rfl ?_
  exact ⟨rfl, HB.out, ((KeepF.refl (F := fun k => k = sb)).setCell (p := ⟨sb, i, none⟩) rfl _).setCell (p := ⟨sb, 256 + a, none⟩) rfl _, by simp⟩
end Go.Proofs.YthadfbekfbfkpaaGreat
namespace Go.Proofs.YthadfbekfbfkpaaGreat
open Go.RowKit
theorem idx_arr {P : Program} (t e : TypeId) (len : Nat) (ht : P.underlying t = some (.array len e)) (i : TypeInfo) (hi : P.info? e = some i) (hs : i.size = 1) (k : IntKind) (hd : P.underlying e = some (.int k)) (cs : Array Value) (j : Nat) (hj : j < len) (v : Value) (hv : cs[j]? = some v) (w : World) : (Instr.index t (.agg cs) (.int .i64 j)).run P w = .ok v w := by
  have h1 : (0 : Int) ≤ (j : Int) ∧ (j : Int) < (len : Int) := by omega
  simp [Instr.index, asIntOf, run_underlying ht, sizeOf, typeInfo, hi, hs, hj, part, isAgg, run_underlying hd, hv]
theorem infoU8 : ∃ i : TypeInfo, Tryz.prog.info? 5 = some i ∧ i.size = 1 := by
  have h : (Tryz.prog.info? 5).map (·.size) = some 1 := by kernel_rfl
  cases hi : Tryz.prog.info? 5 with
  | none => rw [hi] at h; cases h
  | some i => rw [hi] at h; exact ⟨i, rfl, by simpa using h⟩
end Go.Proofs.YthadfbekfbfkpaaGreat
namespace Go.Proofs.YthadfbekfbfkpaaGreat
open Go.RowKit
set_option linter.unusedVariables false
attribute [local go_sem ↓] Go.wp_at_zero Go.wp_at_succ

def powArr (k : Nat) : Array Value := Array.ofFn (n := 255) fun j => .int .u8 ((if j.1 < k then pw3 j.1 else 0 : Nat) : Int)
theorem powArr_size (k : Nat) : (powArr k).size = 255 := by simp [powArr]
theorem powArr_at (k : Nat) {j : Nat} (h : j < 255) : (powArr k)[j]? = some (.int .u8 ((if j < k then pw3 j else 0 : Nat) : Int)) := by simp [powArr, h]
theorem powArr_set (k : Nat) (hk : k < 255) : (powArr k).setIfInBounds k (.int .u8 (pw3 k : Nat)) = powArr (k + 1) := by
  apply Array.ext_getElem?
  intro j
  rw [Array.getElem?_setIfInBounds, powArr_size]
  by_cases hj : j < 255
  · rw [powArr_at _ hj, powArr_at _ hj]
    by_cases e : k = j
    · subst e; rw [if_pos rfl, if_pos hk, if_pos (by omega)]
    · rw [if_neg e]
      by_cases h2 : j < k
      · rw [if_pos h2, if_pos (by omega)]
      · rw [if_neg h2, if_neg (by omega)]
  · rw [if_neg (by omega), Array.getElem?_eq_none (by rw [powArr_size]; omega), Array.getElem?_eq_none (by rw [powArr_size]; omega)]
theorem zeroBoxes : Tryz.zeroCells355 = boxArr (fun _ => 0) (fun _ => 0) := by kernel_rfl
theorem zeroPow : Tryz.zeroCells383 = powArr 0 := by kernel_rfl
theorem tsAll_self (cs : Array Value) : tsAll cs 0 cs.toList = cs := by
  apply Array.ext_getElem?
  intro j
  by_cases h : j < cs.size
  · have := tsAll_in cs.toList 0 cs j (by simpa using h) (by omega)
    rw [Nat.zero_add] at this
    rw [this]
    simp
  · rw [Array.getElem?_eq_none (by rw [tsAll_size]; omega), Array.getElem?_eq_none (by omega)]
theorem boxArr_one (f g : Nat → Nat) : (boxArr f g).all (·.oneCell') = true := by
  rw [Array.all_eq_true]
  intro i hi
  simp only [boxArr, Array.getElem_ofFn]
  rfl
set_option maxRecDepth 100000 in
set_option maxHeartbeats 1600000 in
theorem substitution_ok (w : World) : Calls Tryz.prog 258 #[] w fun e w' => e = .returned (.agg (boxArr sbx isb)) ∧ Below w.heap.size w w' := by
  have HZ := zeroBoxes
  have HZP := zeroPow
  go_enter Tryz.func258, Tryz.ntmps258
  go_upto_region 2 with (fail)
  obtain ⟨sb, hsb⟩ : ∃ sb, sb = w.heap.size := ⟨_, rfl⟩
  refine wp_let (fun V => Blk V sb 355 (boxArr (fun _ => 0) (fun _ => 0)) ∧ Below w.heap.size w V) ⟨by rw [hsb]; exact Blk.new _ _ _, (Below.refl _ _).alloc (Nat.le_refl _) _⟩ ?_
  rintro W1 ⟨b1, b2⟩
  have S1 := Lib.hid (set_ok 0 0 (by decide) (by decide) sb _ _ W1 b1)
  have B1 := Lib.hid b2
  have HSB := Lib.hid hsb
  rw [← hsb]
  clear HZ b1 b2 hsb
  go_upto_region 5 with (go_at_call 281; refine (S1.out).mono ?_; rintro e w2 ⟨rfl, hB, hK, hs⟩; have H2 := Lib.hid hB; have K2 := Lib.hid hK; clear hB hK hs)
  obtain ⟨pb, hpb⟩ : ∃ pb, pb = w2.heap.size := ⟨_, rfl⟩
  have hsp : sb ≠ pb := by have := H2.out.lt; omega
  refine wp_let (fun V => Blk V sb 355 (boxArr (boxK 0) (invK 0)) ∧ Blk V pb 383 (powArr 0) ∧ Below w.heap.size w V) ⟨H2.out.alloc _, by rw [hpb]; exact Blk.new _ _ _, (KeepF.below B1.out K2.out (fun k e => by rw [e, HSB.out]; exact Nat.le_refl _) (by have := B1.out.size; omega)).alloc (by have := K2.out.size; have := B1.out.size; omega) _⟩ ?_
  rintro W3 ⟨b1, b2, b3⟩
  have F0 := Lib.hid (And.intro b1 (And.intro b2 b3))
  have hp0 : w.heap.size ≤ pb := by have := K2.out.size; have := B1.out.size; omega
  have HPB := Lib.hid hp0
  rw [← hpb]
  clear b1 b2 b3 hpb HZP hp0
  go_wp2
  go_loopw [3, 10] (fun v3 v10 wr => ∃ k : Nat, k ≤ 255 ∧ v10 = .int .i64 k ∧ v3 = .int .u8 (pw3 k : Nat) ∧ Blk wr sb 355 (boxArr (boxK 0) (invK 0)) ∧ Blk wr pb 383 (powArr k) ∧ Below w.heap.size w wr) (fun _ v10 _ => 255 - (intOf v10).toNat)
  case atStart => exact ⟨0, by omega, rfl, rfl, F0.out.1, F0.out.2.1, F0.out.2.2⟩
  case round =>
    clear F0
    obtain ⟨k, hk, rfl, rfl, hB, hP, hb⟩ := hrel
    have k0 : (0 : Int) ≤ (k : Int) := by omega
    have HB := Lib.hid hB
    have HP := Lib.hid hP
    have HBW := Lib.hid hb
    clear hB hP hb
    by_cases hlt : k < 255
    · have k1 : (k : Int) < 255 := by omega
      have c0 := HP.out.cell k
      rw [powArr_at k hlt] at c0
      have f0 := HP.out.frozen k
      have hx := bx (pw3 k) (dbl (pw3 k)) (pw3 (k + 1)) (pw3_lt k) (dbl_lt _) rfl
      have HD := Lib.hid (fun V => double_ok (pw3 k) (pw3_lt k) V)
      have HS := Lib.hid (powArr_set k hlt)
      obtain ⟨p, hp⟩ : ∃ p, p = pw3 k := ⟨_, rfl⟩
      obtain ⟨p', hp'⟩ : ∃ p', p' = pw3 (k + 1) := ⟨_, rfl⟩
      obtain ⟨d, hd⟩ : ∃ d, d = dbl (pw3 k) := ⟨_, rfl⟩
      rw [← hd] at hx HD
      rw [← hp'] at hx
      rw [← hp] at hx HD HS ⊢
      have HP' := Lib.hid hp'
      clear hp hp' hd
      go_wp2_with (go_at_call 283; refine (HD.out _).mono ?_; rintro e w4 ⟨rfl, rfl⟩)
      go_roundw
      case rel =>
        refine ⟨k + 1, by omega, by go_num, by rw [HP'.out], HB.out.far (p := ⟨pb, k, none⟩) hsp _, ?_, HBW.out.setCell (p := ⟨pb, k, none⟩) HPB.out _⟩
        rw [← HS.out]
        exact HP.out.set_ k _
      case measure => simp [intOf]; omega
    · obtain rfl : k = 255 := by omega
      have HU := Lib.hid Tryz.underlying383
      have HSZ : Hid ((Tryz.prog.info? 383).map (·.size) = some (powArr 255).size) := Lib.hid (by rw [powArr_size]; kernel_rfl)
      have HAT := Lib.hid (fun (j : Nat) (h : j < 255) => (powArr_at 255 h).trans (by rw [if_pos h]))
      have HCEL := Lib.hid (fun (V : World) (h : Blk V pb 383 (powArr 255)) (j : Nat) (hj : j < 255) => (h.cell j).trans ((powArr_at 255 hj).trans (by rw [if_pos hj])))
      obtain ⟨PW, hPW⟩ : ∃ PW, PW = powArr 255 := ⟨_, rfl⟩
      rw [← hPW] at HP HSZ HAT HCEL
      clear hPW hk
      obtain ⟨p0, hp0⟩ : ∃ p0, p0 = pw3 255 := ⟨_, rfl⟩
      rw [← hp0]
      clear hp0
      have n1 : ¬ (255 : Int) < 255 := by omega
      go_wp2_with (refine wpList_load_row rfl _ _ rfl pb rfl 383 PW (0, 0) _ HP.out HU.out rfl HSZ.out ?_)
      go_loopw [22] (fun v wq => ∃ j : Nat, j ≤ 255 ∧ v = .int .i64 j ∧ Blk wq sb 355 (boxArr (boxK j) (invK j)) ∧ Blk wq pb 383 PW ∧ Below w.heap.size w wq) (fun v _ => 255 - (intOf v).toNat)
      case atStart => exact ⟨0, by omega, rfl, HB.out, HP.out, HBW.out⟩
      case round =>
        clear HB HP HBW
        obtain ⟨j, hj, rfl, hB, hP, hb⟩ := hrel
        have j0 : (0 : Int) ≤ (j : Int) := by omega
        have HB := Lib.hid hB
        have HP := Lib.hid hP
        have HBW := Lib.hid hb
        clear hB hP hb
        by_cases hlt2 : j < 255
        · have j1 : (j : Int) < 255 := by omega
          obtain ⟨iu, hiu, hius⟩ := infoU8
          have hix := idx_arr (P := Tryz.prog) 383 5 255 Tryz.underlying383 iu hiu hius .u8 Tryz.underlying5 PW j hlt2 _ (HAT.out j hlt2)
          obtain ⟨q, hq⟩ : ∃ q, q = (255 - j) % 255 := ⟨_, rfl⟩
          have hq5 : q < 255 := by rw [hq]; exact Nat.mod_lt _ (by decide)
          have hrem : Int.tmod (255 - (j : Int)) 255 = (q : Int) := by
            rw [hq, show (255 : Int) - (j : Int) = ((255 - j : Nat) : Int) by omega]
            exact (Int.natCast_emod (255 - j) 255).symm ▸ rfl
          have c0 := HCEL.out wr HP.out q hq5
          have q0 : (0 : Int) ≤ (q : Int) := by omega
          have q1 : (q : Int) < 255 := by omega
          have HS := Lib.hid (set_ok (pw3 j) (pw3 q) (pw3_lt _) (pw3_lt _) sb _ _ wr HB.out)
          have HBK := Lib.hid (show boxK (j + 1) = upd (boxK j) (pw3 j) (aff (pw3 q)) from by rw [boxK, hq])
          have HIK := Lib.hid (show invK (j + 1) = upd (invK j) (aff (pw3 q)) (pw3 j) from by rw [invK, hq])
          obtain ⟨x, hx⟩ : ∃ x, x = pw3 j := ⟨_, rfl⟩
          obtain ⟨y, hy⟩ : ∃ y, y = pw3 q := ⟨_, rfl⟩
          rw [← hx] at hix HS HBK HIK
          rw [← hy] at c0 HS HBK HIK
          clear hx hy hq hiu
          go_wp2_with (go_at_call 281; refine (HS.out).mono ?_; rintro e w4 ⟨rfl, hB, hK, hs⟩; have H4 := Lib.hid hB; have K4 := Lib.hid hK; clear hB hK hs)
          go_roundw
          case rel => exact ⟨j + 1, by omega, by go_num, by rw [HBK.out, HIK.out]; exact H4.out, K4.out.blk HP.out (fun e => hsp e.symm), KeepF.below HBW.out K4.out (fun k e => by rw [e, HSB.out]; exact Nat.le_refl _) HBW.out.size⟩
          case measure => simp [intOf]; omega
        · obtain rfl : j = 255 := by omega
          have HSZ2 : Hid ((Tryz.prog.info? 355).map (·.size) = some (boxArr sbx isb).size) := Lib.hid (by rw [boxArr_size]; kernel_rfl)
          have HU2 := Lib.hid Tryz.underlying355
          have HO := Lib.hid (boxArr_one sbx isb)
          have HBX : Hid (Blk wr sb 355 (boxArr sbx isb)) := Lib.hid HB.out
          obtain ⟨BX, hBX⟩ : ∃ BX, BX = boxArr sbx isb := ⟨_, rfl⟩
          rw [← hBX] at HSZ2 HO HBX
          have HBXE := Lib.hid hBX
          have HWS := Lib.hid (show Below w.heap.size w (wr.setRow sb BX) from ⟨HBW.out.os, HBW.out.tape, HBW.out.output, by rw [size_setRow]; exact HBW.out.size, fun i hi => (setRow_other wr sb i BX (by have := HSB.out; omega)).trans (HBW.out.block i hi)⟩)
          have HBS := Lib.hid (show (wr.setRow sb BX).heap[sb]? = some (.cells BX 355 (0, 0)) from setRow_heap wr sb BX BX 355 (0, 0) HBX.out)
          have n2 : ¬ (255 : Int) < 255 := by omega
          clear hBX HB HP
          go_wp2_with (first
            | (refine wpList_load_row rfl _ _ rfl sb rfl 355 BX (0, 0) _ HBX.out HU2.out rfl HSZ2.out ?_)
            | (refine wpList_store_row rfl _ _ _ rfl sb BX rfl rfl 355 BX HBX.out HSZ2.out rfl HO.out ?_))
          refine bodyPost_ret (v := .agg BX) (results_cell_row (g := sb) (t := 355) (fr := (0, 0)) Tryz.results258 _ _ BX _ rfl HBS.out HU2.out rfl HSZ2.out) rfl ⟨by rw [HBXE.out], HWS.out⟩
end Go.Proofs.YthadfbekfbfkpaaGreat
namespace Go.Proofs.YthadfbekfbfkpaaGreat
open Go.RowKit
set_option linter.unusedVariables false

/-- the first p bytes of the round keys; zeros behind them -/
def keyArr (K : Nat → Nat → Nat) (p : Nat) : Array Value := Array.ofFn (n := 176) fun c => .int .u8 ((if c.1 < p then K (c.1 / 16) (c.1 % 16) else 0 : Nat) : Int)
theorem keyArr_size (K : Nat → Nat → Nat) (p : Nat) : (keyArr K p).size = 176 := by simp [keyArr]
theorem keyArr_at (K : Nat → Nat → Nat) (p : Nat) {c : Nat} (h : c < 176) : (keyArr K p)[c]? = some (.int .u8 ((if c < p then K (c / 16) (c % 16) else 0 : Nat) : Int)) := by simp [keyArr, h]
theorem keyArr_set (K : Nat → Nat → Nat) (p : Nat) (hp : p < 176) : (keyArr K p).setIfInBounds p (.int .u8 (K (p / 16) (p % 16) : Nat)) = keyArr K (p + 1) := by
  apply Array.ext_getElem?
  intro j
  rw [Array.getElem?_setIfInBounds, keyArr_size]
  by_cases hj : j < 176
  · rw [keyArr_at _ _ hj, keyArr_at _ _ hj]
    by_cases e : p = j
    · subst e; rw [if_pos rfl, if_pos hp, if_pos (by omega)]
    · rw [if_neg e]
      by_cases h2 : j < p
      · rw [if_pos h2, if_pos (by omega)]
      · rw [if_neg h2, if_neg (by omega)]
  · rw [if_neg (by omega), Array.getElem?_eq_none (by rw [keyArr_size]; omega), Array.getElem?_eq_none (by rw [keyArr_size]; omega)]
theorem keyArr_one (K : Nat → Nat → Nat) (p : Nat) : (keyArr K p).all (·.oneCell') = true := by
  rw [Array.all_eq_true]
  intro i hi
  simp only [keyArr, Array.getElem_ofFn]
  rfl
/-- a block of 16 bytes -/
def b16 (b : Nat → Nat) : Array Value := Array.ofFn (n := 16) fun j => .int .u8 ((b j.1 : Nat) : Int)
theorem b16_size (b : Nat → Nat) : (b16 b).size = 16 := by simp [b16]
theorem b16_at (b : Nat → Nat) {j : Nat} (h : j < 16) : (b16 b)[j]? = some (.int .u8 ((b j : Nat) : Int)) := by simp [b16, h]
theorem b16_one (b : Nat → Nat) : (b16 b).all (·.oneCell') = true := by
  rw [Array.all_eq_true]
  intro i hi
  simp only [b16, Array.getElem_ofFn]
  rfl
theorem b16_set (b : Nat → Nat) (i x : Nat) (hi : i < 16) : (b16 b).setIfInBounds i (.int .u8 (x : Int)) = b16 (upd b i x) := by
  apply Array.ext_getElem?
  intro j
  rw [Array.getElem?_setIfInBounds, b16_size]
  by_cases hj : j < 16
  · rw [b16_at _ hj, b16_at _ hj]
    by_cases e : i = j
    · subst e; rw [if_pos rfl, if_pos hi]; simp [upd]
    · have e2 : ¬ j = i := fun h => e h.symm
      rw [if_neg e]; simp [upd, e2]
  · rw [if_neg (by omega), Array.getElem?_eq_none (by rw [b16_size]; omega), Array.getElem?_eq_none (by rw [b16_size]; omega)]
end Go.Proofs.YthadfbekfbfkpaaGreat
namespace Go.Proofs.YthadfbekfbfkpaaGreat
open Go.RowKit
set_option linter.unusedVariables false
attribute [local go_sem ↓] Go.wp_at_zero Go.wp_at_succ

theorem subc_ok (i : Int) (x y : Nat) (hx : x < 256) (pb cg : Nat) (w : World) (h1 : w.cell? ⟨pb, 0, none⟩ = some (.pointer (some ⟨cg, 0, none⟩))) (h2 : w.cell? ⟨cg, x, none⟩ = some (.int .u8 y)) :
    Calls Tryz.prog 286 #[.int .i64 i, .int .u8 x, .pointer (some ⟨pb, 0, none⟩)] w fun e w' => e = .returned (.int .u8 y) ∧ w = w' := by
  have x1 : (x : Int) < 256 := by omega
  go_enter Tryz.func286, Tryz.ntmps286
  go_wp2
  go_ret
  exact ⟨rfl, rfl⟩
theorem shiftc_ok (i : Nat) (x : Int) (hi : i < 16) (y : Nat) (bb : Nat) (w : World) (h2 : w.cell? ⟨bb, (i + 4 * (i % 4)) % 16, none⟩ = some (.int .u8 y)) :
    Calls Tryz.prog 287 #[.int .i64 i, .int .u8 x, .pointer (some ⟨bb, 0, none⟩)] w fun e w' => e = .returned (.int .u8 y) ∧ w = w' := by
  go_enter Tryz.func287, Tryz.ntmps287
  go_wp2
  go_ret
  exact ⟨rfl, rfl⟩
end Go.Proofs.YthadfbekfbfkpaaGreat
namespace Go.Proofs.YthadfbekfbfkpaaGreat
open Go.RowKit
set_option linter.unusedVariables false
attribute [local go_sem ↓] Go.wp_at_zero Go.wp_at_succ

set_option maxRecDepth 100000 in
theorem addc_ok (i n x y : Nat) (hi : i < 16) (hn : n < 11) (hx : x < 256) (hy : y < 256) (pb nb cg : Nat) (w : World) (h1 : w.cell? ⟨pb, 0, none⟩ = some (.pointer (some ⟨cg, 0, none⟩))) (h2 : w.cell? ⟨nb, 0, none⟩ = some (.int .i64 n)) (h3 : w.cell? ⟨cg, 512 + n * 16 + i, none⟩ = some (.int .u8 y)) :
    Calls Tryz.prog 285 #[.int .i64 i, .int .u8 x, .pointer (some ⟨pb, 0, none⟩), .pointer (some ⟨nb, 0, none⟩)] w fun e w' => e = .returned (.int .u8 (x ^^^ y : Nat)) ∧ Below w.heap.size w w' := by
  have i0 : (0 : Int) ≤ (i : Int) := by omega
  have i1 : (i : Int) < 16 := by omega
  have n0 : (0 : Int) ≤ (n : Int) := by omega
  have n1 : (n : Int) < 11 := by omega
  have hb := bx x y (x ^^^ y) hx hy rfl
  go_enter Tryz.func285, Tryz.ntmps285
  go_upto_region 1 with (fail)
  go_quiet (fail)
  go_wp2
  go_ret
  exact ⟨rfl, below_drewN (Below.refl _ _) _⟩
end Go.Proofs.YthadfbekfbfkpaaGreat
namespace Go.Proofs.YthadfbekfbfkpaaGreat
open Go.RowKit
set_option linter.unusedVariables false
attribute [local go_sem ↓] Go.wp_at_zero Go.wp_at_succ

def fac (k : Nat) : Nat := if k = 0 then 2 else if k = 1 then 3 else 1
def mixS (b : Nat → Nat) (i : Nat) : Nat → Nat
  | 0 => 0
  | k + 1 => mixS b i k ^^^ gmul (fac k) (b (i / 4 * 4 + (i + k) % 4))
theorem mixS_four (b : Nat → Nat) (i : Nat) : mixS b i 4 = mixAt b i := rfl
theorem mixS_lt (b : Nat → Nat) (i : Nat) : ∀ k, mixS b i k < 256
  | 0 => show 0 < 256 by decide
  | k + 1 => xor_lt (mixS_lt b i k) (gmul_lt _ _)
theorem fac_lt (k : Nat) : fac k < 256 := by unfold fac; split; decide; split <;> decide
set_option maxRecDepth 100000 in
theorem mixc_ok (i : Nat) (x : Int) (hi : i < 16) (b : Nat → Nat) (hb : B16 b) (fb bb : Nat) (w : World) (hf : Blk w fb 333 #[.int .u8 2, .int .u8 3, .int .u8 1, .int .u8 1]) (hB : Blk w bb 357 (b16 b)) :
    Calls Tryz.prog 295 #[.int .i64 i, .int .u8 x, .pointer (some ⟨fb, 0, none⟩), .pointer (some ⟨bb, 0, none⟩)] w fun e w' => e = .returned (.int .u8 (mixAt b i : Nat)) ∧ w = w' := by
  have f0 := hf.cell 0
  have f1 := hf.cell 1
  have f2 := hf.cell 2
  have f3 := hf.cell 3
  simp at f0 f1 f2 f3
  have HB := Lib.hid hB
  have HBB := Lib.hid hb
  obtain ⟨iu, hiu, hius⟩ := infoU8
  have HIX := Lib.hid (fun (k : Nat) (hk : k < 4) => idx_arr (P := Tryz.prog) 333 5 4 Tryz.underlying333 iu hiu hius .u8 Tryz.underlying5 #[.int .u8 2, .int .u8 3, .int .u8 1, .int .u8 1] k hk (.int .u8 (fac k : Nat)) (by rcases (by omega : k = 0 ∨ k = 1 ∨ k = 2 ∨ k = 3) with rfl | rfl | rfl | rfl <;> rfl))
  have HM4 := Lib.hid (mixS_four b i)
  have i0 : (0 : Int) ≤ (i : Int) := by omega
  have i1 : (i : Int) < 16 := by omega
  clear hf hB hb hiu
  go_enter Tryz.func295, Tryz.ntmps295
  go_wp2
  go_loop [6, 10] (fun v6 v10 => ∃ k : Nat, k ≤ 4 ∧ v10 = .int .i64 k ∧ v6 = .int .u8 (mixS b i k : Nat)) (fun _ v10 => 4 - (intOf v10).toNat)
  case atStart => exact ⟨0, by omega, rfl, rfl⟩
  case round =>
    obtain ⟨k, hk, rfl, rfl⟩ := hrel
    by_cases hlt : k < 4
    · have k0 : (0 : Int) ≤ (k : Int) := by omega
      have k1 : (k : Int) < 4 := by omega
      have hix := HIX.out k hlt
      have hq : i / 4 * 4 + (i + k) % 4 < 16 := by omega
      have c0 : w.cell? ⟨bb, i / 4 * 4 + (i + k) % 4, none⟩ = some (.int .u8 (b (i / 4 * 4 + (i + k) % 4) : Nat)) := (HB.out.cell _).trans (b16_at b hq)
      have HMU := Lib.hid (mul_ok (fac k) (b (i / 4 * 4 + (i + k) % 4)) (fac_lt k) (HBB.out _ hq) w)
      have hx := bx (mixS b i k) (gmul (fac k) (b (i / 4 * 4 + (i + k) % 4))) (mixS b i (k + 1)) (mixS_lt b i k) (gmul_lt _ _) rfl
      obtain ⟨p, hp⟩ : ∃ p, p = mixS b i k := ⟨_, rfl⟩
      obtain ⟨p', hp'⟩ : ∃ p', p' = mixS b i (k + 1) := ⟨_, rfl⟩
      obtain ⟨m, hm⟩ : ∃ m, m = gmul (fac k) (b (i / 4 * 4 + (i + k) % 4)) := ⟨_, rfl⟩
      rw [← hm] at HMU hx
      rw [← hp'] at hx
      rw [← hp] at hx ⊢
      have HP' := Lib.hid hp'
      clear hp hp' hm
      go_wp2_with (go_at_call 296; refine (HMU.out).mono ?_; rintro e w2 ⟨rfl, rfl⟩)
      go_round
      case rel => exact ⟨k + 1, by omega, by go_num, by rw [HP'.out]⟩
      case measure => simp [intOf]; omega
    · obtain rfl : k = 4 := by omega
      rw [HM4.out]
      go_wp2
      go_ret
      exact ⟨rfl, rfl⟩
end Go.Proofs.YthadfbekfbfkpaaGreat
namespace Go.Proofs.YthadfbekfbfkpaaGreat
open Go.RowKit
set_option linter.unusedVariables false

/-- such an iterator, told that the caller's invariant holds of fewer than N elements -/
def SeqRuns {α : Type} (F : Fence) (n : Nat) (P : Program) (g : Nat) (lb : Array Value) (encs : α → Array Value) (Kp : World → World → Prop) (Sp : List α → Prop) (NB : Nat) (w : World) : Prop :=
  ∀ (N l : Nat) (J Jx : List α → World → Prop) (W : World), N ≤ NB → Below w.heap.size w W → AbidesFrom W.heap.size J → AbidesFrom W.heap.size Jx → (∀ pre W1, J pre W1 → pre.length < N) →
    (∀ pre x W1, J pre W1 → YieldAt F (n - 1) P l (encs x) W1 fun e W' =>
      (e = .returned (.bool true) ∧ J (pre ++ [x]) W' ∧ Kp W1 W') ∨ (e = .returned (.bool false) ∧ Jx (pre ++ [x]) W')) →
    J [] W →
    CallsIn F n P g (#[.func (.yield l) #[] #[]] ++ lb) W fun e W' => (∃ v, e = .returned v) ∧ ∃ pre, Sp pre ∧ Jx pre W'

/-- the loop over it: the walk of its body, from an invariant that bounds how many have come -/
theorem wpIn_rangeFunc_runs {F : Fence} {n : Nat} {P : Program} {α : Type} {g : Operand} {ps : Array Tmp} {assign body : Code} {Q : Exit → Act → World → Prop} {a : Act} {w : World}
    (hro : F.round = none) (h1 : 1 ≤ n) {gf : Nat} {lb : Array Value} (hg : a.eval g = .func (.func gf) #[] lb) (hFg : F.fn gf) (eg : ∀ args w, (callFunc gf args).run P w = .ok (.enter gf args) w)
    {encs : α → Array Value} {Kp : World → World → Prop} {Sp : List α → Prop} {NB : Nat} {w0 : World} (hseq : SeqRuns F (n - 1) P gf lb encs Kp Sp NB w0)
    (hKt : ∀ {A B C : World}, Kp A B → Kp B C → Kp A C) (hKb : ∀ (W : World) (l : Nat) (o o' : Obj), w.heap.size ≤ l → W.heap[l]? = some o → o.isCells = false → o.isWalk = false → Kp W (W.putObj l o')) (hb0 : Below w0.heap.size w0 w) (hps : ∀ x, (encs x).size = ps.size)
    (N : Nat) (hNB : N ≤ NB) (I : List α → World → Prop) (Ix : Code → List α → World → Prop) (hI : OwnFrom w.heap.size I) (hIx : ∀ c, OwnFrom w.heap.size (Ix c)) (hN : ∀ pre W, I pre W → pre.length < N) (h0 : I [] w) (a₁ : α → Act)
    (hassign : ∀ (l : Nat) (x : α) (W : World) (K : Act → World → Prop), K (a₁ x) W →
      assign.wpIn (F.inRound l) (n - 1 - 1) P (Exit.then K (fun _ _ _ => False)) { tmps := (ps.zip (encs x)).foldl (fun t (p, v) => t.setIfInBounds p v) a.tmps, defers := [] } W)
    (hbody : ∀ (l : Nat) (pre : List α) (x : α) (W : World), I pre W → body.wpIn (F.inRound l) (n - 1 - 1) P (ownPostG w.heap.size Kp I Ix (pre ++ [x]) W) (a₁ x) W)
    (hstop : ∀ (D : Nat) (c : Code) (pre : List α) (W : World), w.heap.size ≤ D → Sp pre → Ix c pre W → W.heap[D]? = some (.deferred (some [])) → c.wpIn F n P Q { a with defers := { target := .collected D, args := #[] } :: a.defers } W) :
    (Code.rangeFunc g ps assign body).wpIn F n P Q a w := by
  refine wpIn_rangeFunc fun fn hfn => ?_
  rw [hro]
  obtain ⟨rec, hrec⟩ : ∃ rec : LoopState → Option Code → Loop, rec = fun st pe => { state := st, pending := pe, fn, tmps := a.tmps, params := ps, assign, body, defers := w.heap.size } := ⟨_, rfl⟩
  obtain ⟨r, hr0⟩ : ∃ r, r = w.heap.size + 1 := ⟨_, rfl⟩
  obtain ⟨W1, hW1⟩ : ∃ W1, (w.alloc (.deferred (some []))).alloc (.loop (rec .ready none)) = W1 := ⟨_, rfl⟩
  have hL1 : W1.heap[r]? = some (.loop (rec .ready none)) := by
    rw [← hW1, hr0]
    have := World.alloc_heap_new (w.alloc (.deferred (some []))) (.loop (rec .ready none))
    rwa [World.size_alloc] at this
  have hK1 : W1.heap[w.heap.size]? = some (.deferred (some [])) := by
    rw [← hW1]
    exact (Below.heap_alloc _ _ _ (by simp)).trans (World.alloc_heap_new w _)
  have hs1 : w.heap.size + 2 = W1.heap.size := by rw [← hW1]; simp
  have hI1 : I [] W1 := by rw [← hW1]; exact hI.alloc _ (hI.alloc _ h0)
  have hb1 : Below w0.heap.size w0 W1 := by
    rw [← hW1]
    exact hb0.trans ((((Below.refl _ w).alloc (Nat.le_refl _) _).alloc (by simp) _).mono hb0.size)
  have steps : ∀ {A B : World} {row : Option Nat}, (∀ k, row = some k → W1.heap.size ≤ k ∧ ∃ o : Obj, A.heap[k]? = some o ∧ o.isWalk = true) → (∀ k, row = some k → w.heap.size ≤ k ∧ ∃ o : Obj, A.heap[k]? = some o ∧ o.isCells = false) := fun h k e => by
    obtain ⟨hge, o, ho, hw⟩ := h k e
    exact ⟨by omega, o, ho, Obj.not_cells_of_walk hw⟩
  refine ⟨r, [{ target := .collected w.heap.size, args := #[] }], W1, { target := .fn (.func gf) lb, args := #[.func (.yield r) #[] #[]] }, W1, gf, #[.func (.yield r) #[] #[]] ++ lb, W1, ?_, ?_, ?_, ?_, fun _ => h1, ?_⟩
  · rw [← hW1, hrec, hr0]; exact run_enterLoop_outer _ _ _ _ _
  · simp only [resolve, hg]
    simp [go_sem]
  · intro f' hf'
    simp [Target.leads] at hf'
    subst hf'
    exact hFg
  · simp [invoke, go_sem, eg]
  · refine (hseq N r (fun pre W => I pre W ∧ W.heap[r]? = some (.loop (rec .ready none)) ∧ W.heap[w.heap.size]? = some (.deferred (some [])))
      (fun pre W => ∃ c, Ix c pre W ∧ W.heap[r]? = some (.loop (rec .done (some c))) ∧ W.heap[w.heap.size]? = some (.deferred (some []))) W1 hNB hb1
      (fun s A B row hs hg' hr => ⟨hI s A B row hs.1 hg' (steps (B := B) hr), (grownBy_keeps hg' (fun k e => (hr k e).2) hs.2.1 rfl).trans hs.2.1, (grownBy_keeps hg' (fun k e => (hr k e).2) hs.2.2 rfl).trans hs.2.2⟩)
      (fun s A B row ⟨c, hc, hl, hk⟩ hg' hr => ⟨c, hIx c s A B row hc hg' (steps (B := B) hr), (grownBy_keeps hg' (fun k e => (hr k e).2) hl rfl).trans hl, (grownBy_keeps hg' (fun k e => (hr k e).2) hk rfl).trans hk⟩)
      (fun pre W h => hN pre W h.1) ?_ ⟨hI1, hL1, hK1⟩).mono ?_
    · rintro pre x W ⟨hi, hl, hk⟩
      have hlt : r < W.heap.size := (Array.getElem?_eq_some_iff.1 hl).1
      have hy := run_yield (P := P) (args := encs x) hl (by rw [hrec]; exact hps x)
      rw [hrec] at hy
      refine ⟨fn, _, assign, body, hy, roundIn_of_wpIn hfn (hassign _ x W _ ⟨_, run_beginRound hl (by rw [hrec]), ?_⟩)⟩
      obtain ⟨W2, hW2⟩ : ∃ W2, W.putObj r (.loop { rec .ready none with state := .busy }) = W2 := ⟨_, rfl⟩
      rw [hW2]
      have hl2 : W2.heap[r]? = some (.loop { rec .ready none with state := .busy }) := by rw [← hW2]; exact World.putObj_heap_same hlt
      have hk2 : W2.heap[w.heap.size]? = some (.deferred (some [])) := by rw [← hW2]; exact (World.putObj_heap_other (by omega)).trans hk
      have hw2 : Kp W W2 := by rw [← hW2]; exact hKb _ _ _ _ (by omega) hl rfl rfl
      have hi2 : I pre W2 := by rw [← hW2]; exact hI.putObj _ hi (by omega) hl rfl
      refine wpIn_mono (hbody _ pre x W2 hi2) ?_
      have fin : ∀ (jump : Option Code) (W3 : World), KeepsFrom w.heap.size W2 W3 →
          (Instr.endRound r jump).run P W3 = .ok (.bool jump.isNone) (W3.putObj r (.loop (rec (if jump.isNone then .ready else .done) jump))) ∧ W3.heap[r]? = some (.loop { rec .ready none with state := .busy }) ∧
          (W3.putObj r (.loop (rec (if jump.isNone then .ready else .done) jump))).heap[r]? = some (.loop (rec (if jump.isNone then .ready else .done) jump)) ∧
          (W3.putObj r (.loop (rec (if jump.isNone then .ready else .done) jump))).heap[w.heap.size]? = some (.deferred (some [])) := fun jump W3 hk3 => by
        have hl3 := hk3.same _ _ (by omega) hl2 rfl
        have hend := run_endRound (P := P) jump hl3
        rw [hrec] at hend hl3 ⊢
        exact ⟨hend, hl3, World.putObj_heap_same (Array.getElem?_eq_some_iff.1 hl3).1, (World.putObj_heap_other (by omega)).trans (hk3.same _ _ (Nat.le_refl _) hk2 rfl)⟩
      rintro e a3 W3 hp
      cases e with
      | normal =>
        obtain ⟨hk3, hkp3, hi3⟩ := hp
        obtain ⟨hr, hl3, hl4, hk4⟩ := fin none W3 hk3
        exact ⟨_, _, hr, .inl ⟨rfl, ⟨hI.putObj _ hi3 (by omega) hl3 rfl, hl4, hk4⟩, hKt (hKt hw2 hkp3) (hKb _ _ _ _ (by omega) hl3 rfl rfl)⟩⟩
      | ret =>
        obtain ⟨hk3, hi3⟩ := hp
        obtain ⟨hr, hl3, hl4, hk4⟩ := fin (some .ret) W3 hk3
        exact ⟨_, _, hr, .inr ⟨rfl, .ret, (hIx _).putObj _ hi3 (by omega) hl3 rfl, hl4, hk4⟩⟩
      | exit id =>
        obtain ⟨hk3, hi3⟩ := hp
        obtain ⟨hr, hl3, hl4, hk4⟩ := fin (some (.exit id)) W3 hk3
        exact ⟨_, _, hr, .inr ⟨rfl, .exit id, (hIx _).putObj _ hi3 (by omega) hl3 rfl, hl4, hk4⟩⟩
      | goto t =>
        obtain ⟨hk3, hi3⟩ := hp
        obtain ⟨hr, hl3, hl4, hk4⟩ := fin (some (.goto t)) W3 hk3
        exact ⟨_, _, hr, .inr ⟨rfl, .goto t, (hIx _).putObj _ hi3 (by omega) hl3 rfl, hl4, hk4⟩⟩
      | panic ch => exact hp.elim
      | outgrown => exact hp.elim
    · rintro e W2 ⟨⟨v, rfl⟩, pre, hSp, c, hi, hl, hk⟩
      have hend := run_endLoop (P := P) hl (by rw [hrec]; simp)
      rw [hrec] at hend
      exact ⟨some c, _, hend, hstop _ c pre _ (Nat.le_refl _) hSp ((hIx c).putObj _ hi (by omega) hl rfl) ((World.putObj_heap_other (by omega)).trans hk)⟩

/- a region that draws its order, in the body of a loop over an iterator: the plain laws serve there too -/
section
variable {n l : Nat} {P : Program} {ops : Array Oper} {md : Region.Mode} {Q : Exit → Act → World → Prop}
def plainOp (o : Oper) : Bool := match o.op with | .defer _ => false | _ => true
theorem plainOp_spec {o : Oper} (h : plainOp o = true) : ∀ c, o.op ≠ .defer c := by
  intro c e
  unfold plainOp at h
  rw [e] at h
  cases h
theorem round_wp {o : Oper} {a : Act} {w : World} {K : Act → World → Prop} (hnd : plainOp o = true) (h : o.wp P a w K Q) : o.wpIn (Fence.wide.inRound l) n P a w K Q := by
  unfold Oper.wp at h
  unfold Oper.wpIn
  refine ⟨fun _ _ => trivial, ?_⟩
  rw [Oper.semAt_eq _ _ _ (plainOp_spec hnd)]
  generalize (execOp a.eval o).run P w = r at *
  cases r with
  | ok x w' =>
    cases x <;> simp only [Oper.upon] at h <;> simp only [Oper.uponIn]
    case value => exact h
    case skip => exact h
    case defer => exact h
    case enter => exact ⟨(fun e => by cases e), CallsIn.mono (CallsIn.inRound l (callsIn_wide.2 h)) (fun e w'' he => by cases e <;> exact he)⟩
    case row => exact ⟨(fun e => by cases e), fun c cs _ => let ⟨v, w', r, s⟩ := h c cs; ⟨v, w', r, stepsIn_wide.2 s⟩⟩
  | halt x w' => cases x <;> simp only [Oper.upon] at h <;> simp only [Oper.uponIn] <;> exact h
theorem round_op (hl : ¬ LetsOut Q) (hnd : ops.all plainOp = true) {i : Nat} {K K' : Act → World → Prop} {a : Act} {w : World} (hK : ∀ a w, K a w → K' a w) (h : wpOp P ops Q i K a w) : wpOpIn (Fence.wide.inRound l) n P ops Q i K' a w := by
  unfold wpOp at h
  unfold wpOpIn
  split
  · rename_i ho; simp only [ho] at h; exact hK _ _ h
  · rename_i o ho
    simp only [ho] at h
    have hn : plainOp o = true := by
      rw [Array.all_eq_true_iff_forall_mem] at hnd
      exact hnd o (Array.mem_of_getElem? ho)
    split
    · rename_i hw
      simp only [hw, if_true] at h
      rcases h with h | ⟨_, h⟩
      · exact round_wp hn (Oper.wp_mono hK h)
      · exact absurd h hl
    · rename_i hw
      simp only [hw] at h
      exact ⟨fun _ _ => trivial, hK _ _ h⟩
theorem round_any (hl : ¬ LetsOut Q) (hnd : ops.all plainOp = true) : ∀ (fuel : Nat) (listed : Array Bool) (a : Act) (w : World), wpAny P md ops Q fuel listed a w → wpAnyIn (Fence.wide.inRound l) n P md ops Q fuel listed a w
  | 0, _, _, _, h => h
  | fuel + 1, _, _, _, h => ⟨h.1, fun i hi => round_op hl hnd (fun a' w' h' => round_any hl hnd fuel _ a' w' h') (h.2 i hi)⟩
theorem region_held_round {id : Nat} {a : Act} {w : World} {S : World → Prop} (hl : ¬ LetsOut Q) (hnd : ops.all plainOp = true) (hm : P.follows .mixedOrders = true) (hS : S w.drew)
    (h : S w.drew → wpAnyH P .any ops Q S ops.size (Array.replicate ops.size false) a w.drew) : (Code.region id ops true).wpIn (Fence.wide.inRound l) n P Q a w :=
  wpIn_region_any hm (round_any hl hnd _ _ _ _ (wpAny_of_held _ _ _ _ (h hS)))
end
end Go.Proofs.YthadfbekfbfkpaaGreat
namespace Go.Proofs.YthadfbekfbfkpaaGreat
open Go
set_option linter.unusedVariables false

/-- the 8 bytes of a number, the most significant one first -/
def halfB (v j : Nat) : Nat := v / 2 ^ (56 - 8 * j) % 256
theorem halfB_lt (v j : Nat) : halfB v j < 256 := Nat.mod_lt _ (by decide)
/-- the first half of a counter block, as a number -/
def pfx (ct b d : Nat) : Nat := ct * 2 ^ 32 + b * 2 ^ 27 + d * 2 ^ 26
theorem pfx_lt {ct b d : Nat} (hc : ct < 4294967296) (hb : b < 32) (hd : d < 2) : pfx ct b d < 18446744073709551616 := by unfold pfx; omega
def ctrB (ct b d i : Nat) : Nat → Nat := fun j => if j < 8 then halfB (pfx ct b d) j else halfB i (j - 8)
theorem ctrB_lt (ct b d i : Nat) : B16 (ctrB ct b d i) := fun j _ => by
  unfold ctrB
  split <;> exact halfB_lt _ _
/-- the key stream; a message's encryption -/
def ksF (key : Nat → Nat) (ct b d : Nat) : Nat → Nat := fun j => aesF key (ctrB ct b d (j / 16)) (j % 16)
theorem ksF_lt {key : Nat → Nat} (hk : B16 key) (ct b d j : Nat) : ksF key ct b d j < 256 := aesF_lt hk (ctrB_lt _ _ _ _) _ (Nat.mod_lt _ (by decide))
def cryF (key : Nat → Nat) (ct b d : Nat) (z : Nat → Nat) : Nat → Nat := fun j => z j ^^^ ksF key ct b d j
theorem cryF_lt {key : Nat → Nat} (hk : B16 key) (ct b d : Nat) {z : Nat → Nat} {j : Nat} (h : z j < 256) : cryF key ct b d z j < 256 := xor_lt h (ksF_lt hk _ _ _ _)
theorem cryF_back (key : Nat → Nat) (ct b d : Nat) (z : Nat → Nat) (j : Nat) : cryF key ct b d (cryF key ct b d z) j = z j := by
  unfold cryF
  rw [Nat.xor_assoc, Nat.xor_self, Nat.xor_zero]
/-- a block doubled -/
def dblB (b : Nat → Nat) : Nat → Nat := fun i => if i < 15 then (b i * 2 % 256) ||| (b (i + 1) / 128) else (b i * 2 % 256) ^^^ (b 0 / 128 * 135 % 256)
theorem dblB_lt {b : Nat → Nat} (h : B16 b) : B16 (dblB b) := fun i hi => by
  unfold dblB
  split
  · exact Nat.or_lt_two_pow (n := 8) (Nat.mod_lt _ (by decide)) (by have := h (i + 1) (by omega); omega)
  · exact xor_lt (Nat.mod_lt _ (by decide)) (Nat.mod_lt _ (by decide))
def zB : Nat → Nat := fun _ => 0
theorem zB_lt : B16 zB := fun _ _ => by show 0 < 256; decide
def key1 (key : Nat → Nat) : Nat → Nat := dblB (aesF key zB)
def key2 (key : Nat → Nat) : Nat → Nat := dblB (key1 key)
theorem key1_lt {key : Nat → Nat} (hk : B16 key) : B16 (key1 key) := dblB_lt (aesF_lt hk zB_lt)
theorem key2_lt {key : Nat → Nat} (hk : B16 key) : B16 (key2 key) := dblB_lt (key1_lt hk)
/-- block q of a message of n bytes, zeros behind it -/
def blkAt (z : Nat → Nat) (n q : Nat) : Nat → Nat := fun j => if 16 * q + j < n then z (16 * q + j) else 0
theorem blkAt_lt {z : Nat → Nat} {n : Nat} (hz : ∀ j, j < n → z j < 256) (q : Nat) : B16 (blkAt z n q) := fun j _ => by
  unfold blkAt
  split
  · exact hz _ (by assumption)
  · decide
def plusB (a b : Nat → Nat) : Nat → Nat := fun i => a i ^^^ b i
theorem plusB_lt {a b : Nat → Nat} (ha : B16 a) (hb : B16 b) : B16 (plusB a b) := fun j hj => xor_lt (ha j hj) (hb j hj)
/-- the last block, of r bytes -/
def lastB (key : Nat → Nat) (b : Nat → Nat) (r : Nat) : Nat → Nat := if r = 16 then plusB b (key1 key) else plusB (upd b r 128) (key2 key)
theorem upd_lt16 {b : Nat → Nat} {i v : Nat} (hb : B16 b) (hv : v < 256) : B16 (upd b i v) := fun j hj => by
  unfold upd
  split
  · exact hv
  · exact hb j hj
theorem lastB_lt {key b : Nat → Nat} {r : Nat} (hk : B16 key) (hb : B16 b) : B16 (lastB key b r) := by
  unfold lastB
  split
  · exact plusB_lt hb (key1_lt hk)
  · exact plusB_lt (upd_lt16 hb (by decide)) (key2_lt hk)
/-- what block q adds: the last one is made so that it tells -/
def macB (key z : Nat → Nat) (n q : Nat) : Nat → Nat := if n ≤ 16 * q + 16 then lastB key (blkAt z n q) (n - 16 * q) else blkAt z n q
theorem macB_lt {key z : Nat → Nat} {n : Nat} (hk : B16 key) (hz : ∀ j, j < n → z j < 256) (q : Nat) : B16 (macB key z n q) := by
  unfold macB
  split
  · exact lastB_lt hk (blkAt_lt hz q)
  · exact blkAt_lt hz q
/-- the state behind q blocks -/
def macS (key z : Nat → Nat) (n : Nat) : Nat → Nat → Nat
  | 0 => zB
  | q + 1 => aesF key (plusB (macS key z n q) (macB key z n q))
theorem macS_lt {key z : Nat → Nat} {n : Nat} (hk : B16 key) (hz : ∀ j, j < n → z j < 256) : ∀ q, B16 (macS key z n q)
  | 0 => zB_lt
  | q + 1 => aesF_lt hk (plusB_lt (macS_lt hk hz q) (macB_lt hk hz q))
/-- how many blocks a message has -/
def nBlk (n : Nat) : Nat := if n = 0 then 1 else (n + 15) / 16
def macF (key z : Nat → Nat) (n : Nat) : Nat → Nat := macS key z n (nBlk n)
theorem macF_lt {key z : Nat → Nat} {n : Nat} (hk : B16 key) (hz : ∀ j, j < n → z j < 256) : B16 (macF key z n) := macS_lt hk hz _
/-- a function's values in front of another's -/
def catF (a : Nat → Nat) (n : Nat) (b : Nat → Nat) : Nat → Nat := fun j => if j < n then a j else b (j - n)
/-- the integrity code -/
def codeF (key : Nat → Nat) (ct b d : Nat) (z : Nat → Nat) (n : Nat) : Nat :=
  let s := macF key (catF (halfB (pfx ct b d)) 8 z) (8 + n)
  s 0 * 16777216 + s 1 * 65536 + s 2 * 256 + s 3
theorem catF_lt {a b : Nat → Nat} {n m : Nat} (ha : ∀ j, j < n → a j < 256) (hb : ∀ j, j < m → b j < 256) : ∀ j, j < n + m → catF a n b j < 256 := fun j hj => by
  unfold catF
  split
  · exact ha j (by assumption)
  · exact hb _ (by omega)
theorem codeF_lt {key : Nat → Nat} (ct b d : Nat) {z : Nat → Nat} {n : Nat} (hk : B16 key) (hz : ∀ j, j < n → z j < 256) : codeF key ct b d z n < 4294967296 := by
  have h := macF_lt (n := 8 + n) hk (catF_lt (fun j _ => halfB_lt (pfx ct b d) j) hz)
  have h0 := h 0 (by decide); have h1 := h 1 (by decide); have h2 := h 2 (by decide); have h3 := h 3 (by decide)
  unfold codeF
  simp only
  omega
end Go.Proofs.YthadfbekfbfkpaaGreat
