/- compress: Feedback, New, Reset. -/
import Derived.Test.YtejadoadpgcpjaaGG
import Derived.Laws.Tables
import Derived.Laws.Rows
namespace Go.Proofs.Ytejadoadpgcpjaa
open Go.RowKit

attribute [local go_sem ↓] Go.wp_at_zero Go.wp_at_succ

/-- the first byte from k on that is no feedback; d bytes are left -/
def firstBad (z : Nat → Int) : Nat → Nat → Int
  | _, 0 => -1
  | k, d + 1 => if z k / 16 = 10 then firstBad z (k + 1) d else k
def anyBad (z : Nat → Int) (n : Nat) : Bool := decide (0 ≤ firstBad z 0 n)
theorem firstBad_good (z : Nat → Int) : ∀ d k, firstBad z k d < 0 → ∀ j, k ≤ j → j < k + d → z j / 16 = 10
  | 0, k, _, j, h1, h2 => by omega
  | d + 1, k, h, j, h1, h2 => by
    unfold firstBad at h
    by_cases hk : z k / 16 = 10
    · rw [if_pos hk] at h
      by_cases hj : j = k
      · subst hj; exact hk
      · exact firstBad_good z d (k + 1) h j (by omega) (by omega)
    · rw [if_neg hk] at h; omega
theorem shr4_u8 : ∀ x : Nat, x < 256 → ((x : Int) / 2 ^ 4) = ((x / 16 : Nat) : Int) := fun x _ => by omega
theorem and15_u8 : ∀ x : Nat, x < 256 → bits BinOp.and .u8 ((x : Nat) : Int) 15 = ((x % 16 : Nat) : Int) := by decide +kernel
theorem and15 (x : Int) (h0 : 0 ≤ x) (h1 : x < 256) : bits BinOp.and .u8 x 15 = ((x.toNat % 16 : Nat) : Int) := by
  have := and15_u8 x.toNat (by omega)
  rwa [show ((x.toNat : Nat) : Int) = x by omega] at this

set_option maxRecDepth 100000 in
set_option maxHeartbeats 1600000 in
theorem bad1_ok (x : Int) (_ : 0 ≤ x) (_ : x < 256) (w : World) :
    Calls Try.prog 75 #[.int .u8 x] w fun e w' => e = .returned (.bool (x / 16 != 10)) ∧ w = w' := by
  go_enter Try.func75, Try.ntmps75
  go_wp2
  go_ret
  exact ⟨rfl, rfl⟩
set_option maxRecDepth 100000 in
set_option maxHeartbeats 1600000 in
theorem indexBad_ok (A : Option Addr) (n c : Nat) (z : Nat → Int) (hn : n ≤ maxLen) (hz : ∀ j, j < n → 0 ≤ z j ∧ z j < 256) (w : World) (hr : Row w w.heap.size A n (fun j => .int .u8 (z j))) :
    Calls Try.prog 96 #[.slice A n c, .func (.func 75) #[] #[]] w fun e w' => e = .returned (.int .i64 (firstBad z 0 n)) ∧ w = w' := by
  unfold maxLen at hn
  by_cases hn0 : n = 0
  · subst hn0
    go_enter Try.func96, Try.ntmps96
    go_wp2
    go_loop [8] (fun v => v = .int .i64 0) (fun _ => 0)
    case atStart => rfl
    case round =>
      subst hrel
      go_wp2
      go_ret
      exact ⟨rfl, rfl⟩
  obtain ⟨lb, lo, rfl, hlb, hc⟩ := hr (by omega)
  have HC := Lib.hid hc
  have HZ := Lib.hid hz
  clear hc hz hr
  go_enter Try.func96, Try.ntmps96
  go_wp2
  go_loop [8] (fun v => ∃ k : Nat, k ≤ n ∧ v = .int .i64 k ∧ firstBad z 0 n = firstBad z k (n - k)) (fun v => n - (intOf v).toNat)
  case atStart => exact ⟨0, by omega, rfl, rfl⟩
  case round =>
    obtain ⟨k, hk, rfl, hfw⟩ := hrel
    have HF := Lib.hid hfw
    clear hfw
    by_cases hlt : k < n
    · have c0 : w.cell? ⟨lb, lo + k, none⟩ = some (.int .u8 (z k)) := HC.out k hlt
      have HB := Lib.hid (bad1_ok (z k) (HZ.out k hlt).1 (HZ.out k hlt).2 w)
      have hstep : firstBad z k (n - k) = if z k / 16 = 10 then firstBad z (k + 1) (n - (k + 1)) else (k : Int) := by
        rw [show n - k = (n - (k + 1)) + 1 by omega]; rfl
      by_cases hw : z k / 16 = 10
      · have e1 : (z k / 16 != 10) = false := by simpa using hw
        rw [e1] at HB
        rw [if_pos hw] at hstep
        have HSt := Lib.hid hstep
        clear hw hstep e1
        go_wp2_with (go_at_call 75; refine (HB.out).mono ?_; rintro e w2 ⟨rfl, rfl⟩)
        go_round
        case rel => exact ⟨k + 1, by omega, by go_num, by rw [HF.out, HSt.out]⟩
        case measure => simp [intOf]; omega
      · have e1 : (z k / 16 != 10) = true := by simpa using hw
        rw [e1] at HB
        rw [if_neg hw] at hstep
        have HSt := Lib.hid hstep
        clear hw hstep e1
        go_wp2_with (go_at_call 75; refine (HB.out).mono ?_; rintro e w2 ⟨rfl, rfl⟩)
        go_ret
        exact ⟨ret_int (by rw [HF.out, HSt.out]), rfl⟩
    · obtain rfl : k = n := by omega
      have HF2 := Lib.hid (show firstBad z 0 k = -1 by rw [HF.out, Nat.sub_self]; rfl)
      clear HF
      go_wp2
      go_ret
      exact ⟨ret_int HF2.out.symm, rfl⟩
theorem containsBad_ok (A : Option Addr) (n c : Nat) (z : Nat → Int) (hn : n ≤ maxLen) (hz : ∀ j, j < n → 0 ≤ z j ∧ z j < 256) (w : World) (hr : Row w w.heap.size A n (fun j => .int .u8 (z j))) :
    Calls Try.prog 74 #[.slice A n c, .func (.func 75) #[] #[]] w fun e w' => e = .returned (.bool (anyBad z n)) ∧ w = w' := by
  have HI := Lib.hid (indexBad_ok A n c z hn hz w hr)
  obtain ⟨x, hx⟩ : ∃ x, x = firstBad z 0 n := ⟨_, rfl⟩
  have hA : anyBad z n = decide (0 ≤ x) := by unfold anyBad; rw [hx]
  rw [hA]
  rw [← hx] at HI
  clear hx hA hz hr
  go_enter Try.func74, Try.ntmps74
  go_wp2_with (go_at_call 96; refine (HI.out).mono ?_; rintro e w2 ⟨rfl, rfl⟩)
  go_ret
  exact ⟨rfl, rfl⟩

theorem Keep1.rown {g B n : Nat} {A : Option Addr} {v : Nat → Value} {w w' : World} (h : Keep1 g w w') (hr : Row w B A n v) (hB : B ≤ w.heap.size) (hg : ∀ a, A = some a → n ≠ 0 → a.block ≠ g) : Row w' B A n v := by
  by_cases hn : n = 0
  · rw [hn]; exact Row.nil
  · exact h.row hr hB (fun a e => hg a e hn)
/-- needs: what Feedback does -/
def needS (S : Nat → Rx) (k : Nat) : Nat → Rx := upd S k { S k with need := true }
def feedTo (S : Nat → Rx) (z : Nat → Int) : Nat → Nat → Rx
  | 0 => S
  | k + 1 => needS (feedTo S z k) ((z k).toNat % 16)
def feedS (S : Nat → Rx) (z : Nat → Int) (n : Nat) : Nat → Rx := if anyBad z n then S else feedTo S z n
def feedErr (z : Nat → Int) (n : Nat) : Int := if anyBad z n then 9 else 0
def FOut (err : Int) (g : Nat) (made : Bool) (S : Nat → Rx) (T : Int) (w : World) (e : Ending) (w' : World) : Prop :=
  e = .returned (.int .i64 err) ∧ CB w' g made S T ∧ Keep1 g w w'

set_option maxRecDepth 100000 in
theorem feedback_none (g : Nat) (S : Nat → Rx) (T : Int) (Z : Value) (w : World) (h : CB w g false S T) :
    Calls Try.prog 45 #[.pointer (some ⟨g, 0, none⟩), Z] w fun e w' => e = .returned (.int .i64 1) ∧ w = w' := by
  have HB := Lib.hid (none_ok g false S T w h)
  clear h
  go_enter Try.func45, Try.ntmps45
  go_wp2_with (go_at_call 62; refine (HB.out).mono ?_; rintro e w1 ⟨rfl, rfl⟩)
  go_ret
  exact ⟨rfl, rfl⟩
set_option maxRecDepth 100000 in
theorem feedback_nil (Z : Value) (w : World) :
    Calls Try.prog 45 #[.pointer none, Z] w fun e w' => e = .returned (.int .i64 1) ∧ w = w' := by
  go_enter Try.func45, Try.ntmps45
  go_wp2_with (go_at_call 62; refine (none_nil _).mono ?_; rintro e w1 ⟨rfl, rfl⟩)
  go_ret
  exact ⟨rfl, rfl⟩
theorem bool_cases (b : Bool) : b = true ∨ b = false := by cases b <;> simp
set_option maxRecDepth 100000 in
set_option maxHeartbeats 1600000 in
theorem feedback_ok (g : Nat) (S : Nat → Rx) (T : Int) (A : Option Addr) (n c : Nat) (z : Nat → Int) (hn : n ≤ maxLen) (hz : ∀ j, j < n → 0 ≤ z j ∧ z j < 256) (w : World) (h : CB w g true S T) (hr : Row w w.heap.size A n (fun j => .int .u8 (z j))) (hg : ∀ a, A = some a → n ≠ 0 → a.block ≠ g) :
    Calls Try.prog 45 #[.pointer (some ⟨g, 0, none⟩), .slice A n c] w (FOut (feedErr z n) g true (feedS S z n) T w) := by
  have HB := Lib.hid (none_ok g true S T w h)
  have HC := Lib.hid (containsBad_ok A n c z hn hz w hr)
  have HK := Lib.hid h
  rcases bool_cases (anyBad z n) with hb | hb
  · have e1 : feedErr z n = 9 := by unfold feedErr; rw [hb]; rfl
    have e2 : feedS S z n = S := by unfold feedS; rw [hb]; rfl
    rw [e1, e2]
    rw [hb] at HC
    clear h hz hr hg hb e1 e2
    go_enter Try.func45, Try.ntmps45
    go_wp2_with (first
      | (go_at_call 62; refine (HB.out).mono ?_; rintro e w1 ⟨rfl, rfl⟩)
      | (go_at_call 74; refine (HC.out).mono ?_; rintro e w1 ⟨rfl, rfl⟩))
    go_ret
    exact ⟨rfl, HK.out, World.grownBy_refl _ _⟩
  · have e1 : feedErr z n = 0 := by unfold feedErr; rw [hb]; rfl
    have e2 : feedS S z n = feedTo S z n := by unfold feedS; rw [hb]; rfl
    rw [e1, e2]
    rw [hb] at HC
    have HR := Lib.hid hr
    have HG := Lib.hid hg
    have HZ := Lib.hid hz
    unfold maxLen at hn
    clear h hz hr hg hb e1 e2
    go_enter Try.func45, Try.ntmps45
    go_wp2_with (first
      | (go_at_call 62; refine (HB.out).mono ?_; rintro e w1 ⟨rfl, rfl⟩)
      | (go_at_call 74; refine (HC.out).mono ?_; rintro e w1 ⟨rfl, rfl⟩))
    go_loopw [15] (fun v wr => ∃ k : Nat, k ≤ n ∧ v = .int .i64 k ∧ CB wr g true (feedTo S z k) T ∧ Keep1 g w wr) (fun v _ => n - (intOf v).toNat)
    case atStart => exact ⟨0, by omega, rfl, HK.out, World.grownBy_refl _ _⟩
    case round =>
      obtain ⟨k, hk, rfl, hKr, hEr⟩ := hrel
      by_cases hlt : k < n
      · obtain ⟨lb, lo, rfl, hlb, hc⟩ := (hEr.rown HR.out (Nat.le_refl _) HG.out) (by omega)
        have c0 : wr.cell? ⟨lb, lo + k, none⟩ = some (.int .u8 (z k)) := hc k hlt
        have hz0 := HZ.out k hlt
        have a1 := and15 (z k) hz0.1 hz0.2
        obtain ⟨q, hq⟩ : ∃ q, q = (z k).toNat % 16 := ⟨_, rfl⟩
        rw [← hq] at a1
        have q16 : q < 16 := by omega
        have q0 : (0 : Int) ≤ (q : Int) := by omega
        have q1 : (q : Int) < 16 := by omega
        have fr : wr.frozen? ⟨g, 1 + q * 14 + 12, none⟩ = false := hKr.fr _
        have ce := hKr.ctx q16 12 (by decide) (o := 1 + q * 14) (by omega)
        have ce2 : wr.cell? ⟨g, 1 + q * 14 + 12, none⟩ = some (.bool (feedTo S z k q).need) := ce
        have KN := Lib.hid (show CB (wr.setCell ⟨g, 1 + q * 14 + 12, none⟩ (.bool true)) g true (feedTo S z (k + 1)) T from by
          unfold feedTo needS
          rw [← hq]
          exact (hKr.self q).need_ q16 (by omega) true)
        have KE := Lib.hid (show Keep1 g w (wr.setCell ⟨g, 1 + q * 14 + 12, none⟩ (.bool true)) from grownBy_set hEr _ _)
        clear hc hKr hEr hq ce
        go_wp2
        go_roundw
        case rel => exact ⟨k + 1, by omega, by go_num, KN.out, KE.out⟩
        case measure => simp [intOf]; omega
      · obtain rfl : k = n := by omega
        go_wp2
        go_ret
        exact ⟨rfl, hKr, hEr⟩

theorem zero91 : Try.zeroCells91 = csArr false (fun _ => Rx.zero) 0 := by kernel_rfl
theorem csArr_made (made b : Bool) (S : Nat → Rx) (T : Int) : (csArr made S T).setIfInBounds 0 (.bool b) = csArr b S T := by
  apply Array.ext_getElem?
  intro j
  rw [Array.getElem?_setIfInBounds]
  by_cases hj : j < 226
  · rw [csArr_at _ _ _ j hj, csArr_at _ _ _ j hj]
    by_cases hjk : 0 = j
    · subst hjk
      rw [if_pos rfl, if_pos (by rw [csArr_size]; omega)]
      rfl
    · rw [if_neg hjk]
      unfold cval
      have h0 : ¬ j = 0 := fun e => hjk e.symm
      rw [if_neg h0, if_neg h0]
  · rw [Array.getElem?_eq_none (by rw [csArr_size]; omega), Array.getElem?_eq_none (by rw [csArr_size]; omega)]
    split
    · rename_i hh; rw [if_neg (by rw [csArr_size]; omega)]
    · rfl
theorem new_ok (w : World) : Calls Try.prog 31 #[] w fun e w' => e = .returned (.pointer (some ⟨w.heap.size, 0, none⟩)) ∧ w.alloc (.cells (csArr true (fun _ => Rx.zero) 0) 91) = w' := by
  have hz : Try.zeroCells91.setIfInBounds 0 (.bool true) = csArr true (fun _ => Rx.zero) 0 := by rw [zero91, csArr_made]
  go_enter Try.func31, Try.ntmps31
  go_wp2
  go_ret
  exact ⟨rfl, rfl⟩
theorem size91 : (Try.prog.info? 91).map (·.size) = some 226 := by kernel_rfl
theorem rx_one (c : Rx) : ∀ k, k < 14 → (c.cell k).oneCell' = true := fun k hk =>
  match k, hk with
  | 0, _ => rfl
  | 1, _ => rfl
  | 2, _ => rfl
  | 3, _ => rfl
  | 4, _ => rfl
  | 5, _ => rfl
  | 6, _ => rfl
  | 7, _ => rfl
  | 8, _ => rfl
  | 9, _ => rfl
  | 10, _ => rfl
  | 11, _ => rfl
  | 12, _ => rfl
  | 13, _ => rfl
  | k + 14, h => absurd h (by omega)
theorem cs_one (made : Bool) (S : Nat → Rx) (T : Int) : (csArr made S T).all (·.oneCell') = true := by
  rw [Array.all_eq_true]
  intro j hj
  have hj2 : j < 226 := by rw [csArr_size] at hj; exact hj
  have e := csArr_at made S T j hj2
  rw [Array.getElem?_eq_getElem hj] at e
  rw [Option.some.inj e]
  unfold cval
  split
  · rfl
  · split
    · rfl
    · exact rx_one _ _ (by omega)
theorem keep_row {g : Nat} {w w' : World} (h : Keep1 g w w') (cs : Array Value) : Keep1 g w (w'.setRow g cs) :=
  ⟨h.os, h.tape, h.output, by rw [size_setRow]; exact h.size, fun i hi hne => (setRow_other w' g i cs (fun e => hne (by rw [e]))).trans (h.block i hi hne)⟩
theorem reset_none (g : Nat) (S : Nat → Rx) (T : Int) (w : World) (h : CB w g false S T) :
    Calls Try.prog 46 #[.pointer (some ⟨g, 0, none⟩)] w fun e w' => e = .returned (.int .i64 1) ∧ w = w' := by
  have HB := Lib.hid (none_ok g false S T w h)
  clear h
  go_enter Try.func46, Try.ntmps46
  go_wp2_with (go_at_call 62; refine (HB.out).mono ?_; rintro e w1 ⟨rfl, rfl⟩)
  go_ret
  exact ⟨rfl, rfl⟩
theorem reset_nil (w : World) :
    Calls Try.prog 46 #[.pointer none] w fun e w' => e = .returned (.int .i64 1) ∧ w = w' := by
  go_enter Try.func46, Try.ntmps46
  go_wp2_with (go_at_call 62; refine (none_nil _).mono ?_; rintro e w1 ⟨rfl, rfl⟩)
  go_ret
  exact ⟨rfl, rfl⟩
set_option maxRecDepth 100000 in
theorem reset_ok (g : Nat) (S : Nat → Rx) (T : Int) (w : World) (h : CB w g true S T) :
    Calls Try.prog 46 #[.pointer (some ⟨g, 0, none⟩)] w (FOut 0 g true (fun _ => Rx.zero) 0 w) := by
  have HB := Lib.hid (none_ok g true S T w h)
  have HK := Lib.hid h
  have HO := Lib.hid (cs_one true (fun _ => Rx.zero) 0)
  obtain ⟨Z, hZ⟩ : ∃ Z, Z = csArr true (fun _ => Rx.zero) 0 := ⟨_, rfl⟩
  have HN := Lib.hid (fun W => new_ok W)
  have HS : Hid ((Try.prog.info? 91).map (·.size) = some Z.size) := Lib.hid (by rw [hZ, csArr_size]; exact size91)
  have HS2 : Hid ((csArr true S T).size = Z.size) := Lib.hid (by rw [hZ, csArr_size, csArr_size])
  rw [← hZ] at HN HO
  have HZ := Lib.hid hZ
  clear h hZ
  go_enter Try.func46, Try.ntmps46
  go_wp2_with (first
    | (go_at_call 62; refine (HB.out).mono ?_; rintro e w1 ⟨rfl, rfl⟩)
    | (go_at_call 31; refine (HN.out _).mono ?_; rintro e w1 ⟨rfl, rfl⟩)
    | (refine wpList_load_row rfl _ _ rfl w.heap.size rfl 91 Z (0, 0) _ (Blk.new w 91 Z) Try.underlying91 rfl HS.out ?_)
    | (refine wpList_store_row rfl _ _ _ rfl g Z rfl rfl 91 _ (Blk.alloc HK.out _) HS.out HS2.out HO.out ?_))
  go_ret
  refine ⟨rfl, ?_, keep_row (keep_of_below ((Below.refl _ w).alloc (Nat.le_refl _) _)) _⟩
  have := (Blk.alloc HK.out (.cells Z 91)).setRow (ds := Z)
  rw [HZ.out] at this ⊢
  exact this
end Go.Proofs.Ytejadoadpgcpjaa
