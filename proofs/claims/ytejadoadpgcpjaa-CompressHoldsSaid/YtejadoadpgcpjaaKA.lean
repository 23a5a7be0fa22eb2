/- compress: the reference's compressor in memory; New, Flow, find. compress: the reference's New, Feedback, and Compress where it fails or takes the packet as it is. compress: the reference's Compress of a packet that is taken as it is. compress: the reference's Compress of a packet that Parse takes. compress: the reference's Feedback; Compress of any bytes; Clone. compress: act of law 43. -/
import Derived.Test.YtejadoadpgcpjaaGM
import Derived.Test.YtejadoadpgcpjaaGN
import Derived.Test.YtejadoadpgcpjaaFR
import Derived.Test.YtejadoadpgcpjaaGO
import Derived.Test.YtejadoadpgcpjaaGV
import Derived.Deep.MidRow
import Derived.Deep.RegionHeld3
import Derived.StillTailTactics
namespace Go.Proofs.Ytejadoadpgcpjaa
open Go.RowKit

attribute [local go_sem ↓] Go.wp_at_zero Go.wp_at_succ

def Cx.cells (c : Cx) : List Value := [.bool c.used, .int .i64 c.h0, .int .i64 c.h1, .int .i64 c.h2, .int .i64 c.h3, .int .i64 c.h4, .int .i64 c.h5, .int .i64 c.h6, .int .i64 c.h7, .int .i64 c.h8, .int .i64 c.gen, .int .i64 c.step, .bool c.need, .int .i64 c.turn]
def Cx.cell (c : Cx) (k : Nat) : Value := c.cells.getD k undef
theorem Cx.cell_at (c : Cx) (k : Nat) (hk : k < 14) : c.cells[k]? = some (c.cell k) := by
  unfold Cx.cell
  have : k < c.cells.length := hk
  rw [List.getD, List.getElem?_eq_getElem this]; rfl
def rcVal (C : Nat → Cx) (N : Int) (j : Nat) : Value := if j = 224 then .int .i64 N else (C (j / 14)).cell (j % 14)
def rcArr (C : Nat → Cx) (N : Int) : Array Value := Array.ofFn (n := 225) fun j => rcVal C N j.1
theorem rcArr_size (C : Nat → Cx) (N : Int) : (rcArr C N).size = 225 := by simp [rcArr]
theorem rcArr_at (C : Nat → Cx) (N : Int) (j : Nat) (hj : j < 225) : (rcArr C N)[j]? = some (rcVal C N j) := by
  unfold rcArr; simp [hj]
theorem rcArr_ctx (C : Nat → Cx) (N : Int) (i k : Nat) (hi : i < 16) (hk : k < 14) : (rcArr C N)[14 * i + k]? = some ((C i).cell k) := by
  rw [rcArr_at _ _ _ (by omega)]
  unfold rcVal
  rw [if_neg (by omega), show (14 * i + k) / 14 = i by omega, show (14 * i + k) % 14 = k by omega]
theorem rcArr_ext {C : Nat → Cx} {N : Int} {cs : Array Value} (hs : cs.size = 225) (hN : cs[224]? = some (.int .i64 N)) (hc : ∀ i k, i < 16 → k < 14 → cs[14 * i + k]? = some ((C i).cell k)) : cs = rcArr C N := by
  apply Array.ext_getElem?
  intro j
  by_cases hj : j < 225
  · by_cases h2 : j = 224
    · subst h2; rw [hN, rcArr_at _ _ _ (by decide)]; rfl
    · have := hc (j / 14) (j % 14) (by omega) (by omega)
      have h3 := rcArr_ctx C N (j / 14) (j % 14) (by omega) (by omega)
      rw [show 14 * (j / 14) + j % 14 = j by omega] at this h3
      rw [this, h3]
  · rw [Array.getElem?_eq_none (by omega), Array.getElem?_eq_none (by rw [rcArr_size]; omega)]
def RB (w : World) (g : Nat) (C : Nat → Cx) (N : Int) : Prop := Blk w g 70 (rcArr C N)
theorem cx_one (c : Cx) : ∀ v ∈ c.cells, v.oneCell' = true := by
  intro v hv
  simp [Cx.cells] at hv
  rcases hv with h | h | h | h | h | h | h | h | h | h | h | h | h | h <;> (rw [h]; rfl)
theorem rc_one (C : Nat → Cx) (N : Int) : (rcArr C N).all (·.oneCell') = true := by
  rw [Array.all_eq_true]
  intro j hj
  have hj2 : j < 225 := by rw [rcArr_size] at hj; exact hj
  have e := rcArr_at C N j hj2
  rw [Array.getElem?_eq_getElem hj] at e
  rw [Option.some.inj e]
  unfold rcVal
  split
  · rfl
  · exact cx_one (C (j / 14)) _ (List.mem_of_getElem? (Cx.cell_at _ _ (by omega)))
theorem size70 : (Try.prog.info? 70).map (·.size) = some 225 := by kernel_rfl
theorem size67 : (Try.prog.info? 67).map (·.size) = some 14 := by kernel_rfl
def zeroC : Cx := ⟨false, 0, 0, 0, 0, 0, 0, 0, 0, 0, 0, 0, false, 0⟩
theorem zero70 : Try.zeroCells70 = rcArr (fun _ => zeroC) 0 := by kernel_rfl
section
variable {w : World} {g : Nat} {C : Nat → Cx} {N : Int}
theorem RB.n_ (h : RB w g C N) : w.cell? ⟨g, 224, none⟩ = some (.int .i64 N) := (Blk.cell h 224).trans (rcArr_at _ _ 224 (by decide))
theorem RB.ctx (h : RB w g C N) {i : Nat} (hi : i < 16) (k : Nat) (hk : k < 14) {o : Nat} (ho : o = 14 * i) : w.cell? ⟨g, o + k, none⟩ = some ((C i).cell k) := by
  subst ho; exact (Blk.cell h _).trans (rcArr_ctx _ _ i k hi hk)
theorem RB.fr (h : RB w g C N) (j : Nat) : w.frozen? ⟨g, j, none⟩ = false := Blk.frozen h j
theorem RB.set (h : RB w g C N) {i : Nat} (hi : i < 16) (k : Nat) (hk : k < 14) {o : Nat} (ho : o = 14 * i) (c : Cx) (hc : ∀ m, m < 14 → m ≠ k → c.cell m = (C i).cell m) {u : Value} (hu : u = c.cell k) :
    RB (w.setCell ⟨g, o + k, none⟩ u) g (updC C i c) N := by
  subst ho hu
  have h2 := Blk.set_ h (14 * i + k) (c.cell k)
  unfold RB
  have e : (rcArr C N).setIfInBounds (14 * i + k) (c.cell k) = rcArr (updC C i c) N := by
    refine rcArr_ext (by simp [rcArr_size]) ?_ ?_
    · rw [Array.getElem?_setIfInBounds, if_neg (by omega)]; exact rcArr_at _ _ 224 (by decide)
    · intro i2 k2 hi2 hk2
      rw [Array.getElem?_setIfInBounds]
      by_cases hii : i2 = i
      · subst hii
        have e1 : updC C i2 c i2 = c := if_pos rfl
        rw [e1]
        by_cases hkk : k2 = k
        · subst hkk; rw [if_pos rfl, if_pos (by rw [rcArr_size]; omega)]
        · rw [if_neg (by omega), rcArr_ctx _ _ _ _ hi2 hk2, hc k2 hk2 hkk]
      · have e1 : updC C i c i2 = C i2 := if_neg hii
        rw [e1, if_neg (by omega)]
        exact rcArr_ctx _ _ _ _ hi2 hk2
  rw [e] at h2
  exact h2
theorem RB.setN (h : RB w g C N) (M : Int) : RB (w.setCell ⟨g, 224, none⟩ (.int .i64 M)) g C M := by
  have h2 := Blk.set_ h 224 (.int .i64 M)
  have e : (rcArr C N).setIfInBounds 224 (.int .i64 M) = rcArr C M := by
    refine rcArr_ext (by simp [rcArr_size]) ?_ ?_
    · rw [Array.getElem?_setIfInBounds, if_pos rfl, if_pos (by rw [rcArr_size]; omega)]
    · intro i2 k2 hi2 hk2
      rw [Array.getElem?_setIfInBounds, if_neg (by omega)]
      exact rcArr_ctx _ _ _ _ hi2 hk2
  rw [e] at h2
  exact h2
theorem RB.alloc (h : RB w g C N) (o : Obj) : RB (w.alloc o) g C N := Blk.alloc h o
theorem RB.below {w' : World} {B : Nat} (h : RB w g C N) (hb : Below B w w') (hg : g < B) : RB w' g C N := Blk.below h hb hg
theorem RB.lt (h : RB w g C N) : g < w.heap.size := Blk.lt h
theorem RB.cells (h : RB w g C N) {i o : Nat} (hi : i < 16) (ho : o = 14 * i) :
    w.cell? ⟨g, o, none⟩ = some (.bool (C i).used) ∧ w.cell? ⟨g, o + 1, none⟩ = some (.int .i64 (C i).h0) ∧ w.cell? ⟨g, o + 2, none⟩ = some (.int .i64 (C i).h1) ∧ w.cell? ⟨g, o + 3, none⟩ = some (.int .i64 (C i).h2) ∧ w.cell? ⟨g, o + 4, none⟩ = some (.int .i64 (C i).h3) ∧ w.cell? ⟨g, o + 5, none⟩ = some (.int .i64 (C i).h4) ∧ w.cell? ⟨g, o + 6, none⟩ = some (.int .i64 (C i).h5) ∧ w.cell? ⟨g, o + 7, none⟩ = some (.int .i64 (C i).h6) ∧ w.cell? ⟨g, o + 8, none⟩ = some (.int .i64 (C i).h7) ∧ w.cell? ⟨g, o + 9, none⟩ = some (.int .i64 (C i).h8) ∧ w.cell? ⟨g, o + 10, none⟩ = some (.int .i64 (C i).gen) ∧ w.cell? ⟨g, o + 11, none⟩ = some (.int .i64 (C i).step) ∧ w.cell? ⟨g, o + 12, none⟩ = some (.bool (C i).need) ∧ w.cell? ⟨g, o + 13, none⟩ = some (.int .i64 (C i).turn) :=
  ⟨h.ctx hi 0 (by decide) ho, h.ctx hi 1 (by decide) ho, h.ctx hi 2 (by decide) ho, h.ctx hi 3 (by decide) ho, h.ctx hi 4 (by decide) ho, h.ctx hi 5 (by decide) ho, h.ctx hi 6 (by decide) ho, h.ctx hi 7 (by decide) ho, h.ctx hi 8 (by decide) ho, h.ctx hi 9 (by decide) ho, h.ctx hi 10 (by decide) ho, h.ctx hi 11 (by decide) ho, h.ctx hi 12 (by decide) ho, h.ctx hi 13 (by decide) ho⟩
end

theorem rflow_ok (h0 h1 h2 h3 h4 h5 h6 h7 h8 : Int) (w : World) :
    Calls Try.prog 36 #[.agg #[.int .i64 h0, .int .i64 h1, .int .i64 h2, .int .i64 h3, .int .i64 h4, .int .i64 h5, .int .i64 h6, .int .i64 h7, .int .i64 h8]] w fun e w' => e = .returned (.agg #[.int .i64 h0, .int .i64 h1, .int .i64 h2, .int .i64 h3, .int .i64 h4]) ∧ Below w.heap.size w w' := by
  go_enter Try.func36, Try.ntmps36
  go_wp2
  exact bodyPost_ret (v := .agg #[.int .i64 h0, .int .i64 h1, .int .i64 h2, .int .i64 h3, .int .i64 h4]) (by simp [results, Try.results36, go_sem]) rfl ⟨rfl, ((Below.refl _ w).alloc (Nat.le_refl _) _).alloc (by simp) _⟩

theorem bestI_spec (v : Nat → Int) : ∀ n, 0 < n → bestI v n < n ∧ (∀ j, j < n → v (bestI v n) ≤ v j) ∧ (∀ j, j < bestI v n → v (bestI v n) < v j)
  | 0, h => absurd h (by decide)
  | n + 1, _ => by
    by_cases h0 : n = 0
    · subst h0
      have e : bestI v (0 + 1) = 0 := by unfold bestI; split <;> rfl
      rw [e]
      refine ⟨by decide, ?_, ?_⟩
      · intro j hj
        have hj0 : j = 0 := by omega
        rw [hj0]; exact Int.le_refl _
      · intro j hj; omega
    · obtain ⟨h1, h2, h3⟩ := bestI_spec v n (by omega)
      unfold bestI
      split
      · rename_i hlt
        exact ⟨by omega, fun j hj => by
          by_cases hjn : j = n
          · subst hjn; exact Int.le_refl _
          · have := h2 j (by omega); omega, fun j hj => by have := h2 j hj; omega⟩
      · rename_i hlt
        exact ⟨by omega, fun j hj => by
          by_cases hjn : j = n
          · subst hjn; omega
          · exact h2 j (by omega), h3⟩
theorem bestI_eq (v : Nat → Int) (n k : Nat) (hk : k < n) (h1 : ∀ j, j < k → v k < v j) (h2 : ∀ j, j < n → v k ≤ v j) : bestI v n = k := by
  obtain ⟨a, b, c⟩ := bestI_spec v n (by omega)
  by_cases h : bestI v n < k
  · have := h1 _ h
    have := b k hk
    omega
  · by_cases h' : k < bestI v n
    · have := c k h'
      have := h2 _ a
      omega
    · omega

def isFlow (f0 f1 f2 f3 f4 : Int) (c : Cx) : Bool := c.used && sameFlow c.h0 c.h1 c.h2 c.h3 c.h4 f0 f1 f2 f3 f4
theorem fv_rx (f0 f1 f2 f3 f4 : Int) (c : Cx) : fv f0 f1 f2 f3 f4 c.rx = if isFlow f0 f1 f2 f3 f4 c then -2 else if c.used then c.turn else -1 := rfl

set_option maxRecDepth 100000 in
set_option maxHeartbeats 3200000 in
theorem rfind_ok (C : Nat → Cx) (N : Int) (f0 f1 f2 f3 f4 : Int) (ht : ∀ i, i < 16 → 0 ≤ (C i).turn) (w : World) :
    Calls Try.prog 95 #[.agg (rcArr C N), .agg #[.int .i64 f0, .int .i64 f1, .int .i64 f2, .int .i64 f3, .int .i64 f4]] w fun e w' => e = .returned (.int .i64 (bestI (fun k => fv f0 f1 f2 f3 f4 (crx C k)) 16 : Nat)) ∧ Below w.heap.size w w' := by
  have hge : ∀ k, k < 16 → -2 ≤ fv f0 f1 f2 f3 f4 (crx C k) := fun k hk => by
    show -2 ≤ fv f0 f1 f2 f3 f4 (C k).rx
    rw [fv_rx]; have := ht k hk; split
    · omega
    · split <;> omega
  have hge1 : ∀ k, k < 16 → isFlow f0 f1 f2 f3 f4 (C k) = false → -1 ≤ fv f0 f1 f2 f3 f4 (crx C k) := fun k hk hf => by
    show -1 ≤ fv f0 f1 f2 f3 f4 (C k).rx
    rw [fv_rx, hf]; have := ht k hk; simp only [Bool.false_eq_true, if_false]
    split <;> omega
  have hmatch : ∀ k, k < 16 → isFlow f0 f1 f2 f3 f4 (C k) = true → (∀ j, j < k → isFlow f0 f1 f2 f3 f4 (C j) = false) → bestI (fun k => fv f0 f1 f2 f3 f4 (crx C k)) 16 = k := fun k hk hm hno => by
    have hv : fv f0 f1 f2 f3 f4 (crx C k) = -2 := by show fv f0 f1 f2 f3 f4 (C k).rx = -2; rw [fv_rx, hm]; rfl
    exact bestI_eq _ 16 k hk (fun j hj => by show fv f0 f1 f2 f3 f4 (crx C k) < fv f0 f1 f2 f3 f4 (crx C j); have := hge1 j (by omega) (hno j hj); omega) (fun j hj => by show fv f0 f1 f2 f3 f4 (crx C k) ≤ fv f0 f1 f2 f3 f4 (crx C j); have := hge j hj; omega)
  have hfree : ∀ k, k < 16 → (C k).used = false → (∀ j, j < 16 → isFlow f0 f1 f2 f3 f4 (C j) = false) → (∀ j, j < k → (C j).used = true) → bestI (fun k => fv f0 f1 f2 f3 f4 (crx C k)) 16 = k := fun k hk hu hno hall => by
    have hv : fv f0 f1 f2 f3 f4 (crx C k) = -1 := by show fv f0 f1 f2 f3 f4 (C k).rx = -1; rw [fv_rx, hno k hk, hu]; rfl
    exact bestI_eq _ 16 k hk (fun j hj => by
      show fv f0 f1 f2 f3 f4 (crx C k) < fv f0 f1 f2 f3 f4 (C j).rx
      rw [hv, fv_rx, hno j (by omega), hall j hj]; have := ht j (by omega); simp only [Bool.false_eq_true, if_false, if_true]; omega) (fun j hj => by show fv f0 f1 f2 f3 f4 (crx C k) ≤ fv f0 f1 f2 f3 f4 (crx C j); have := hge1 j hj (hno j hj); omega)
  have hstep : ∀ k, k < 16 → (∀ j, j < 16 → isFlow f0 f1 f2 f3 f4 (C j) = false) → (∀ j, j ≤ k → (C j).used = true) → ∀ q, q = bestI (fun k => fv f0 f1 f2 f3 f4 (crx C k)) k → (q < 16) ∧ bestI (fun k => fv f0 f1 f2 f3 f4 (crx C k)) (k + 1) = if (C k).turn < (C q).turn then k else q := fun k hk hno hall q hq => by
    have hq2 : q ≤ k := by rw [hq]; exact best_le _ k
    have e1 : fv f0 f1 f2 f3 f4 (crx C k) = (C k).turn := by show fv f0 f1 f2 f3 f4 (C k).rx = _; rw [fv_rx, hno k hk, hall k (Nat.le_refl _)]; rfl
    have e2 : fv f0 f1 f2 f3 f4 (crx C q) = (C q).turn := by show fv f0 f1 f2 f3 f4 (C q).rx = _; rw [fv_rx, hno q (by omega), hall q hq2]; rfl
    refine ⟨by omega, ?_⟩
    rw [bestI, ← hq]
    show (if fv f0 f1 f2 f3 f4 (crx C k) < fv f0 f1 f2 f3 f4 (crx C q) then k else q) = _
    rw [e1, e2]
  have HM := Lib.hid hmatch
  have HF := Lib.hid hfree
  have HS := Lib.hid hstep
  obtain ⟨v, hv⟩ : ∃ v, v = fun k => fv f0 f1 f2 f3 f4 (crx C k) := ⟨_, rfl⟩
  rw [← hv] at HM HF HS ⊢
  clear hge hge1 hmatch hfree hstep hv ht
  go_enter Try.func95, Try.ntmps95
  go_wp2
  obtain ⟨g, hg⟩ : ∃ g, g = w.heap.size := ⟨_, rfl⟩
  obtain ⟨W1, hW1⟩ : ∃ W1, W1 = (w.alloc (.cells (rcArr C N) 70)).alloc (.cells #[.int .i64 f0, .int .i64 f1, .int .i64 f2, .int .i64 f3, .int .i64 f4] 52) := ⟨_, rfl⟩
  have R1 := Lib.hid (show RB W1 g C N from by rw [hW1, hg]; exact (Blk.new _ _ _).alloc _)
  have F1 := Lib.hid (show Blk W1 (g + 1) 52 #[.int .i64 f0, .int .i64 f1, .int .i64 f2, .int .i64 f3, .int .i64 f4] from by rw [hW1, hg]; exact blk_at _ _ _ _ (by simp))
  have B1 := Lib.hid (show Below w.heap.size w W1 from by rw [hW1]; exact ((Below.refl _ w).alloc (Nat.le_refl _) _).alloc (by simp) _)
  rw [← hW1, ← hg]
  have HG := Lib.hid hg
  clear hW1 hg
  go_loopw [5] (fun v5 wr => ∃ k : Nat, k ≤ 16 ∧ v5 = .int .i64 k ∧ (∀ j, j < k → isFlow f0 f1 f2 f3 f4 (C j) = false) ∧ Below W1.heap.size W1 wr) (fun v5 _ => 16 - (intOf v5).toNat)
  case atStart => exact ⟨0, by omega, rfl, fun j hj => by omega, Below.refl _ _⟩
  case round =>
    obtain ⟨k, hk, rfl, hno, hbr⟩ := hrel
    have HNO := Lib.hid hno
    have BR := Lib.hid hbr
    clear hno hbr
    by_cases hlt : k < 16
    · have KR := Lib.hid (R1.out.below BR.out R1.out.lt)
      have FR := Lib.hid (F1.out.below BR.out F1.out.lt)
      have gl := KR.out.lt
      have fl := FR.out.lt
      have k0 : (0 : Int) ≤ (k : Int) := by omega
      have k1 : (k : Int) < 16 := by omega
      obtain ⟨c0, c1, c2, c3, c4, c5, c6, c7, c8, c9, _, _, _, _⟩ := KR.out.cells (o := k * 14) hlt (by omega)
      obtain ⟨b0, b1, b2, b3, b4⟩ := FR.out.five
      have x0 : ∀ e : ExtW wr, e.v.cell? ⟨g, k * 14, none⟩ = some (.bool (C k).used) := fun e => e.cell c0 gl
      have x1 : ∀ e : ExtW wr, e.v.cell? ⟨g, k * 14 + 1, none⟩ = some (.int .i64 (C k).h0) := fun e => e.cell c1 gl
      have x2 : ∀ e : ExtW wr, e.v.cell? ⟨g, k * 14 + 2, none⟩ = some (.int .i64 (C k).h1) := fun e => e.cell c2 gl
      have x3 : ∀ e : ExtW wr, e.v.cell? ⟨g, k * 14 + 3, none⟩ = some (.int .i64 (C k).h2) := fun e => e.cell c3 gl
      have x4 : ∀ e : ExtW wr, e.v.cell? ⟨g, k * 14 + 4, none⟩ = some (.int .i64 (C k).h3) := fun e => e.cell c4 gl
      have x5 : ∀ e : ExtW wr, e.v.cell? ⟨g, k * 14 + 5, none⟩ = some (.int .i64 (C k).h4) := fun e => e.cell c5 gl
      have x6 : ∀ e : ExtW wr, e.v.cell? ⟨g, k * 14 + 6, none⟩ = some (.int .i64 (C k).h5) := fun e => e.cell c6 gl
      have x7 : ∀ e : ExtW wr, e.v.cell? ⟨g, k * 14 + 7, none⟩ = some (.int .i64 (C k).h6) := fun e => e.cell c7 gl
      have x8 : ∀ e : ExtW wr, e.v.cell? ⟨g, k * 14 + 8, none⟩ = some (.int .i64 (C k).h7) := fun e => e.cell c8 gl
      have x9 : ∀ e : ExtW wr, e.v.cell? ⟨g, k * 14 + 9, none⟩ = some (.int .i64 (C k).h8) := fun e => e.cell c9 gl
      have y0 : ∀ e : ExtW wr, e.v.cell? ⟨g + 1, 0, none⟩ = some (.int .i64 f0) := fun e => e.cell b0 fl
      have y1 : ∀ e : ExtW wr, e.v.cell? ⟨g + 1, 1, none⟩ = some (.int .i64 f1) := fun e => e.cell b1 fl
      have y2 : ∀ e : ExtW wr, e.v.cell? ⟨g + 1, 2, none⟩ = some (.int .i64 f2) := fun e => e.cell b2 fl
      have y3 : ∀ e : ExtW wr, e.v.cell? ⟨g + 1, 3, none⟩ = some (.int .i64 f3) := fun e => e.cell b3 fl
      have y4 : ∀ e : ExtW wr, e.v.cell? ⟨g + 1, 4, none⟩ = some (.int .i64 f4) := fun e => e.cell b4 fl
      have heq := flow_eql (C k).h0 (C k).h1 (C k).h2 (C k).h3 (C k).h4 f0 f1 f2 f3 f4
      have HIF := Lib.hid (show isFlow f0 f1 f2 f3 f4 (C k) = ((C k).used && sameFlow (C k).h0 (C k).h1 (C k).h2 (C k).h3 (C k).h4 f0 f1 f2 f3 f4) from rfl)
      obtain ⟨sf, hsf⟩ : ∃ sf, sf = sameFlow (C k).h0 (C k).h1 (C k).h2 (C k).h3 (C k).h4 f0 f1 f2 f3 f4 := ⟨_, rfl⟩
      obtain ⟨u, hu⟩ : ∃ u, u = (C k).used := ⟨_, rfl⟩
      rw [← hsf] at heq HIF
      rw [← hu] at x0 HIF
      have BX : Hid (∀ e : ExtW wr, Below W1.heap.size W1 e.v) := Lib.hid fun e => below_step BR.out e.h
      clear hsf hu c0 c1 c2 c3 c4 c5 c6 c7 c8 c9 b0 b1 b2 b3 b4
      go_wp2
      cases u
      · have hif : isFlow f0 f1 f2 f3 f4 (C k) = false := HIF.out
        have HI := Lib.hid hif
        clear hif
        refine wp_region_ext (by kernel_rfl) (by kernel_rfl) ?_
        repeat (go_big_quiet_step (fail))
        refine wpQuiet_nil ?_
        rintro _ ⟨ex, rfl⟩
        go_wp2
        go_roundw
        case rel => exact ⟨k + 1, by omega, by go_num, fun j hj => (by by_cases hjk : j = k; (subst hjk; exact HI.out); exact HNO.out j (by omega)), BX.out ex⟩
        case measure => simp [intOf]; omega
      · cases sf
        · have hif : isFlow f0 f1 f2 f3 f4 (C k) = false := HIF.out
          have HI := Lib.hid hif
          clear hif
          refine wp_region_ext (by kernel_rfl) (by kernel_rfl) ?_
          repeat (go_big_quiet_step (exact Calls.ext_of (rflow_ok _ _ _ _ _ _ _ _ _ _)))
          refine wpQuiet_nil ?_
          rintro _ ⟨ex, rfl⟩
          go_wp2
          go_roundw
          case rel => exact ⟨k + 1, by omega, by go_num, fun j hj => (by by_cases hjk : j = k; (subst hjk; exact HI.out); exact HNO.out j (by omega)), BX.out ex⟩
          case measure => simp [intOf]; omega
        · have hif : isFlow f0 f1 f2 f3 f4 (C k) = true := HIF.out
          have HI := Lib.hid hif
          clear hif
          refine wp_region_ext (by kernel_rfl) (by kernel_rfl) ?_
          repeat (go_big_quiet_step (exact Calls.ext_of (rflow_ok _ _ _ _ _ _ _ _ _ _)))
          refine wpQuiet_nil ?_
          rintro _ ⟨ex, rfl⟩
          go_wp2
          go_ret
          exact ⟨ret_int (by rw [HM.out k hlt HI.out HNO.out]), B1.out.trans ((BX.out ex).mono B1.out.size)⟩
    · obtain rfl : k = 16 := by omega
      go_wp2
      go_loopw [6, 7] (fun v6 v7 wq => ∃ k : Nat, k ≤ 16 ∧ v7 = .int .i64 k ∧ v6 = .int .i64 (bestI v k : Nat) ∧ (∀ j, j < k → (C j).used = true) ∧ Below W1.heap.size W1 wq) (fun _ v7 _ => 16 - (intOf v7).toNat)
      case atStart => exact ⟨0, by omega, rfl, rfl, fun j hj => by omega, BR.out⟩
      case round =>
        obtain ⟨k, hk, rfl, rfl, hall, hbq⟩ := hrel
        have BQ := Lib.hid hbq
        have HA := Lib.hid hall
        obtain ⟨q, hq⟩ : ∃ q, q = bestI v k := ⟨_, rfl⟩
        have HQ := Lib.hid hq
        rw [← hq]
        clear hbq hall hq
        by_cases hlt : k < 16
        · have KR := Lib.hid (R1.out.below BQ.out R1.out.lt)
          have k0 : (0 : Int) ≤ (k : Int) := by omega
          have k1 : (k : Int) < 16 := by omega
          have c0 : wr.cell? ⟨g, k * 14, none⟩ = some (.bool (C k).used) := (KR.out.cells hlt (by omega)).1
          obtain ⟨u, hu⟩ : ∃ u, u = (C k).used := ⟨_, rfl⟩
          rw [← hu] at c0
          have HU := Lib.hid hu
          clear hu
          cases u
          · go_wp2
            go_ret
            exact ⟨ret_int (by rw [HF.out k hlt HU.out.symm HNO.out HA.out]), B1.out.trans (BQ.out.mono B1.out.size)⟩
          · obtain ⟨hq16, hst⟩ := HS.out k hlt HNO.out (fun j hj => (by by_cases hjk : j = k; (subst hjk; exact HU.out.symm); exact HA.out j (by omega))) q HQ.out
            have HST := Lib.hid hst
            clear hst
            have q0 : (0 : Int) ≤ (q : Int) := by omega
            have q1 : (q : Int) < 16 := by omega
            have x1 : ∀ e : ExtW wr, e.v.cell? ⟨g, k * 14 + 13, none⟩ = some (.int .i64 (C k).turn) := fun e => e.cell (KR.out.ctx (o := k * 14) hlt 13 (by decide) (by omega)) KR.out.lt
            have x2 : ∀ e : ExtW wr, e.v.cell? ⟨g, q * 14 + 13, none⟩ = some (.int .i64 (C q).turn) := fun e => e.cell (KR.out.ctx (o := q * 14) hq16 13 (by decide) (by omega)) KR.out.lt
            have BX : Hid (∀ e : ExtW wr, Below W1.heap.size W1 e.v) := Lib.hid fun e => below_step BQ.out e.h
            have HAll := Lib.hid (show ∀ j, j < k + 1 → (C j).used = true from fun j hj => (by by_cases hjk : j = k; (subst hjk; exact HU.out.symm); exact HA.out j (by omega)))
            by_cases hcmp : (C k).turn < (C q).turn
            · have HB2 := Lib.hid (show bestI v (k + 1) = k from by rw [HST.out, if_pos hcmp])
              go_wp2
              refine wp_region_ext (by kernel_rfl) (by kernel_rfl) ?_
              repeat (go_big_quiet_step (fail))
              refine wpQuiet_nil ?_
              rintro _ ⟨ex, rfl⟩
              go_wp2
              go_roundw
              case rel => exact ⟨k + 1, by omega, by go_num, by rw [HB2.out], HAll.out, BX.out ex⟩
              case measure => simp [intOf]; omega
            · have HB2 := Lib.hid (show bestI v (k + 1) = q from by rw [HST.out, if_neg hcmp])
              go_wp2
              refine wp_region_ext (by kernel_rfl) (by kernel_rfl) ?_
              repeat (go_big_quiet_step (fail))
              refine wpQuiet_nil ?_
              rintro _ ⟨ex, rfl⟩
              go_wp2
              go_roundw
              case rel => ((repeat apply Exists.intro); exact ⟨⟨k + 1, by omega, by go_num, by rw [HB2.out], HAll.out, BX.out ex⟩, rfl⟩)
              case measure => simp [intOf]; omega
        · obtain rfl : k = 16 := by omega
          go_wp2
          go_ret
          exact ⟨ret_int (by rw [HQ.out]), B1.out.trans (BQ.out.mono B1.out.size)⟩
end Go.Proofs.Ytejadoadpgcpjaa
namespace Go.Proofs.Ytejadoadpgcpjaa
open Go.RowKit

attribute [local go_sem ↓] Go.wp_at_zero Go.wp_at_succ

theorem step_append_src {P : Program} {ops : Array Oper} {o : Oper} {a : Act} {w : World} {K : Act → World → Prop} {Q : Exit → Act → World → Prop} {E : Prop} (hgd : o.guard = none) (s x : Operand) (t : TypeId)
    (ho : o.op = .call { callee := .builtin .append, args := #[s, x], argTypes := #[t, t] })
    (base : Nat) (e : TypeId) (i : TypeInfo) (z : Value) (bytes : Nat) (ht : P.underlying t = some (.slice e)) (hi : P.info? e = some i) (hz : i.zero = some z)
    (hsize : i.size = 1) (hby : i.bytes = bytes) (hzs : z.cells.size = 1)
    (v : Value) (n : Nat) (xs : List Value) (hs : a.eval s = v) (hown : w.ownsRow base e 1 v n xs)
    (B : Nat) (A : Option Addr) (m c : Nat) (nv : Nat → Value) (hx : a.eval x = .slice A m c) (hr : Row w B A m nv) (h1 : ∀ j, (nv j).oneCell' = true)
    (h63 : n + m ≤ maxLen) (hbytes : (n + m) * bytes ≤ 140737488355328) (hbase : base ≤ w.heap.size)
    (h : ∀ v' w', w'.ownsRow base e 1 v' (n + m) (xs ++ (List.range m).map nv) → w.grownBy w' v.ownBlock → (v'.ownBlock = v.ownBlock ∨ v'.ownBlock = some w.heap.size) → K (a.put o.dst v') w') :
    if Region.wanted o (yielded ops a.tmps) = true then Oper.wp P o a w K Q else E := by
  have hw : Region.wanted o (yielded ops a.tmps) = true := by simp [Region.wanted, hgd]
  rw [if_pos hw]
  exact wp_append_src w s x t ho base e i z bytes ht hi hz hsize hby hzs v n xs hs hown B A m c nv hx hr h1 h63 hbytes hbase h

theorem results_cell_two {P : Program} {fn : Func} {p q r : Tmp} {ty : TypeId} (h : fn.results = #[.cell p ty, .tmp q, .tmp r]) (tmps : Array Value) (w : World) (g : Nat) (t : TypeId) (cs : Array Value) (fr : Nat × Nat) (d : TypeDesc)
    (hp : tmps.getD p undef = .pointer (some ⟨g, 0, none⟩)) (hg : w.heap[g]? = some (.cells cs t fr))
    (hu : P.underlying ty = some d) (hd : (match d with | .struct _ | .array _ _ => true | _ => false) = true) (hi : (P.info? ty).map (·.size) = some cs.size) (u v : Value) (hq : tmps.getD q undef = u) (hr : tmps.getD r undef = v) :
    (results fn tmps).run P w = .ok (.tuple #[.agg cs, u, v]) w := by
  subst hq hr
  have hp' : tmps[p]?.getD undef = .pointer (some ⟨g, 0, none⟩) := by simpa using hp
  simp [results, h, hp', asAddr, run_loadVar_row w g t ty cs fr d hg hu hd hi]
theorem results_cell_one {P : Program} {fn : Func} {p q : Tmp} {ty : TypeId} (h : fn.results = #[.cell p ty, .tmp q]) (tmps : Array Value) (w : World) (g : Nat) (t : TypeId) (cs : Array Value) (fr : Nat × Nat) (d : TypeDesc)
    (hp : tmps.getD p undef = .pointer (some ⟨g, 0, none⟩)) (hg : w.heap[g]? = some (.cells cs t fr))
    (hu : P.underlying ty = some d) (hd : (match d with | .struct _ | .array _ _ => true | _ => false) = true) (hi : (P.info? ty).map (·.size) = some cs.size) (u : Value) (hq : tmps.getD q undef = u) :
    (results fn tmps).run P w = .ok (.tuple #[.agg cs, u]) w := by
  subst hq
  have hp' : tmps[p]?.getD undef = .pointer (some ⟨g, 0, none⟩) := by simpa using hp
  simp [results, h, hp', asAddr, run_loadVar_row w g t ty cs fr d hg hu hd hi]

def newTo (k : Nat) : Nat → Cx := fun j => if j < k then Cx.new else zeroC
theorem newTo_next (k : Nat) : updC (newTo k) k Cx.new = newTo (k + 1) := by
  funext j
  unfold updC newTo
  by_cases h : j = k
  · rw [if_pos h, if_pos (by omega)]
  · rw [if_neg h]
    by_cases h2 : j < k
    · rw [if_pos h2, if_pos (by omega)]
    · rw [if_neg h2, if_neg (by omega)]
theorem newTo_all : rcArr (newTo 16) 0 = rcArr (fun _ => Cx.new) 0 := by
  refine rcArr_ext (rcArr_size _ _) (rcArr_at _ _ 224 (by decide)) ?_
  intro i k hi hk
  rw [rcArr_ctx _ _ i k hi hk]
  have : newTo 16 i = Cx.new := if_pos hi
  rw [this]
set_option maxRecDepth 100000 in
set_option maxHeartbeats 1600000 in
theorem rnew_ok (w : World) :
    Calls Try.prog 38 #[] w fun e w' => e = .returned (.agg (rcArr (fun _ => Cx.new) 0)) ∧ Below w.heap.size w w' := by
  have hz := zero70
  go_enter Try.func38, Try.ntmps38
  go_wp2
  obtain ⟨W1, hW1⟩ : ∃ W1, W1 = (w.alloc (.cells (rcArr (fun _ => zeroC) 0) 70)).alloc (.cells (rcArr (fun _ => zeroC) 0) 70) := ⟨_, rfl⟩
  have R1 := Lib.hid (show RB W1 (w.heap.size + 1) (newTo 0) 0 from by rw [hW1]; exact blk_at _ _ _ _ (by simp))
  have O1 := Lib.hid (show Blk W1 w.heap.size 70 (rcArr (fun _ => zeroC) 0) from by rw [hW1]; exact (Blk.new _ _ _).alloc _)
  have B1 := Lib.hid (show Below w.heap.size w W1 from by rw [hW1]; exact ((Below.refl _ w).alloc (Nat.le_refl _) _).alloc (by simp) _)
  rw [← hW1]
  clear hW1 hz
  go_loopw [2] (fun v wr => ∃ k : Nat, k ≤ 16 ∧ v = .int .i64 k ∧ RB wr (w.heap.size + 1) (newTo k) 0 ∧ Blk wr w.heap.size 70 (rcArr (fun _ => zeroC) 0) ∧ Below w.heap.size w wr) (fun v _ => 16 - (intOf v).toNat)
  case atStart => exact ⟨0, by omega, rfl, R1.out, O1.out, B1.out⟩
  case round =>
    obtain ⟨k, hk, rfl, hR, hO, hB⟩ := hrel
    by_cases hlt : k < 16
    · have k0 : (0 : Int) ≤ (k : Int) := by omega
      have k1 : (k : Int) < 16 := by omega
      have ce := hR.ctx (o := k * 14) hlt 10 (by decide) (by omega)
      have ce2 : wr.cell? ⟨w.heap.size + 1, k * 14 + 10, none⟩ = some ((newTo k k).cell 10) := ce
      have fr : wr.frozen? ⟨w.heap.size + 1, k * 14 + 10, none⟩ = false := hR.fr _
      have e0 : newTo k k = zeroC := if_neg (by omega)
      have KN := Lib.hid (show RB (wr.setCell ⟨w.heap.size + 1, k * 14 + 10, none⟩ (.int .i64 (-1))) (w.heap.size + 1) (newTo (k + 1)) 0 from by
        rw [← newTo_next]
        exact hR.set hlt 10 (by decide) (by omega) Cx.new (fun m hm hne => by rw [e0]; exact fourteen (p := fun m => m ≠ 10 → Cx.new.cell m = zeroC.cell m) (fun _ => rfl) (fun _ => rfl) (fun _ => rfl) (fun _ => rfl) (fun _ => rfl) (fun _ => rfl) (fun _ => rfl) (fun _ => rfl) (fun _ => rfl) (fun _ => rfl) (fun h => absurd rfl h) (fun _ => rfl) (fun _ => rfl) (fun _ => rfl) m hm hne) rfl)
      have KO := Lib.hid (hO.far (p := ⟨w.heap.size + 1, k * 14 + 10, none⟩) (by simp) (.int .i64 (-1)))
      have KB := Lib.hid (hB.setCell (p := ⟨w.heap.size + 1, k * 14 + 10, none⟩) (by simp) (.int .i64 (-1)))
      rw [e0] at ce2
      clear hR hO hB ce e0
      go_wp2
      go_roundw
      case rel => exact ⟨k + 1, by omega, by go_num, KN.out, KO.out, KB.out⟩
      case measure => simp [intOf]; omega
    · obtain rfl : k = 16 := by omega
      have HR := Lib.hid hR
      have HO := Lib.hid hO
      have HB := Lib.hid hB
      have HSZ : Hid ((Try.prog.info? 70).map (·.size) = some (rcArr (newTo 16) 0).size) := Lib.hid (by rw [rcArr_size]; exact size70)
      have HS2 : Hid ((rcArr (fun _ => zeroC) 0).size = (rcArr (newTo 16) 0).size) := Lib.hid (by rw [rcArr_size, rcArr_size])
      clear hR hO hB
      go_wp2_with (first
        | (refine wpList_load_row rfl _ _ rfl (w.heap.size + 1) rfl 70 (rcArr (newTo 16) 0) (0, 0) _ HR.out Try.underlying70 rfl HSZ.out ?_)
        | (refine wpList_store_row rfl _ _ _ rfl w.heap.size (rcArr (newTo 16) 0) rfl rfl 70 _ HO.out HSZ.out HS2.out (rc_one _ _) ?_))
      refine bodyPost_ret (v := .agg (rcArr (newTo 16) 0)) (results_cell_row (g := w.heap.size) (t := 70) (fr := (0, 0)) Try.results38 _ _ _ _ rfl (HO.out.setRow (ds := rcArr (newTo 16) 0)) Try.underlying70 rfl HSZ.out) rfl ⟨by rw [newTo_all], ?_⟩
      exact belowRow HB.out (Nat.le_refl _) _

def ROut (len : Nat) (y : Nat → Int) (err : Int) (C : Nat → Cx) (N : Int) (w : World) (e : Ending) (w' : World) : Prop :=
  ∃ A c, e = .returned (.tuple #[.agg (rcArr C N), .slice A len c, .int .i64 err]) ∧ len ≤ c ∧ Row w' w'.heap.size A len (fun j => .int .u8 (y j)) ∧ Below w.heap.size w w'

set_option maxRecDepth 100000 in
set_option maxHeartbeats 1600000 in
theorem rc_bad (C : Nat → Cx) (N : Int) (A : Option Addr) (n c : Nat) (w : World) (he : ckErr n ≠ 0) :
    Calls Try.prog 69 #[.agg (rcArr C N), .slice A n c] w fun e w' => e = .returned (.tuple #[.agg (rcArr C N), .slice none 0 0, .int .i64 (ckErr n)]) ∧ Below w.heap.size w w' := by
  have hz := zero70
  have HRC := Lib.hid (fun W => rcheck_ok A n c W)
  obtain ⟨E, hE⟩ : ∃ E, E = ckErr n := ⟨_, rfl⟩
  rw [← hE] at HRC he ⊢
  have e1 : (E != 0) = true := by simpa using he
  obtain ⟨L, hL⟩ : ∃ L, L = rcArr C N := ⟨_, rfl⟩
  obtain ⟨Z, hZ⟩ : ∃ Z, Z = rcArr (fun _ => zeroC) 0 := ⟨_, rfl⟩
  have HSZ : Hid ((Try.prog.info? 70).map (·.size) = some L.size) := Lib.hid (by rw [hL, rcArr_size]; exact size70)
  have HS2 : Hid (Z.size = L.size) := Lib.hid (by rw [hL, hZ, rcArr_size, rcArr_size])
  have HO1 : Hid (L.all (·.oneCell') = true) := Lib.hid (by rw [hL]; exact rc_one C N)
  rw [← hZ] at hz
  rw [← hL]
  clear hL hZ
  clear hE he
  go_enter Try.func69, Try.ntmps69
  go_wp2_with (first
    | (go_at_call 35; refine (HRC.out _).mono ?_; rintro e w1 ⟨rfl, rfl⟩)
    | (refine wpList_load_row rfl _ _ rfl w.heap.size rfl 70 L (0, 0) _ ((Blk.new w _ _).alloc _) Try.underlying70 rfl HSZ.out ?_)
    | (refine wpList_store_row rfl _ _ _ rfl (w.heap.size + 1) L rfl rfl 70 Z (blk_at _ _ _ _ (by simp)) HSZ.out HS2.out HO1.out ?_))
  refine bodyPost_ret (v := .tuple #[.agg L, .slice none 0 0, .int .i64 E]) (results_cell_two (g := w.heap.size + 1) (t := 70) (fr := (0, 0)) Try.results69 _ _ L _ rfl (Blk.setRow (blk_at (w.alloc (.cells L 70)) _ Z _ (by simp))) Try.underlying70 rfl HSZ.out _ _ rfl rfl) rfl ⟨rfl, ?_⟩
  exact belowRow (((Below.refl _ w).alloc (Nat.le_refl _) _).alloc (by simp) _) (by omega) _
end Go.Proofs.Ytejadoadpgcpjaa
namespace Go.Proofs.Ytejadoadpgcpjaa
open Go.RowKit

attribute [local go_sem ↓] Go.wp_at_zero Go.wp_at_succ

section
theorem heap_setCells_other (b k : Nat) (hk : k ≠ b) : ∀ (vs : List Value) (o : Nat) (w : World), (w.setCells b o vs).heap[k]? = w.heap[k]?
  | [], _, _ => rfl
  | v :: r, o, w => (heap_setCells_other b k hk r (o + 1) (w.setCell ⟨b, o, none⟩ v)).trans (Below.heap_setCell w ⟨b, o, none⟩ v k hk)
theorem size_setCells (b : Nat) : ∀ (vs : List Value) (o : Nat) (w : World), (w.setCells b o vs).heap.size = w.heap.size
  | [], _, _ => rfl
  | v :: r, o, w => (size_setCells b r (o + 1) (w.setCell ⟨b, o, none⟩ v)).trans (World.size_setCell _ _ _)
theorem grownBy_setCells (b : Nat) : ∀ (vs : List Value) (o : Nat) (w : World), w.grownBy (w.setCells b o vs) (some b)
  | [], _, w => World.grownBy_refl w _
  | v :: r, o, w => (grownBy_setCellAt w b o v).trans (grownBy_setCells b r (o + 1) _)
theorem Blk.farCells {w : World} {g b : Nat} {t : TypeId} {cs : Array Value} (h : Blk w g t cs) (hne : g ≠ b) (o : Nat) (vs : List Value) : Blk (w.setCells b o vs) g t cs := (heap_setCells_other b g hne vs o w).trans h
theorem below_setCells {B b : Nat} {w w' : World} (h : Below B w w') (hB : B ≤ b) (hs : B ≤ w'.heap.size) (o : Nat) (vs : List Value) : Below B w (w'.setCells b o vs) :=
  h.grown (grownBy_setCells b vs o w') hs (fun k e => by cases e; exact hB)
/-- the cells of a block behind many stores -/
def setAll (cs : Array Value) : Nat → List Value → Array Value
  | _, [] => cs
  | o, v :: r => setAll (cs.setIfInBounds o v) (o + 1) r
theorem setAll_size : ∀ (vs : List Value) (o : Nat) (cs : Array Value), (setAll cs o vs).size = cs.size
  | [], _, _ => rfl
  | v :: r, o, cs => by rw [setAll, setAll_size r]; simp
theorem setAll_out : ∀ (vs : List Value) (o : Nat) (cs : Array Value) (j : Nat), j < o ∨ o + vs.length ≤ j → (setAll cs o vs)[j]? = cs[j]?
  | [], _, _, _, _ => rfl
  | v :: r, o, cs, j, h => by
    rw [setAll, setAll_out r (o + 1) _ j (by simp at h; omega), Array.getElem?_setIfInBounds, if_neg (by simp at h; omega)]
theorem setAll_in : ∀ (vs : List Value) (o : Nat) (cs : Array Value) (j : Nat), j < vs.length → o + j < cs.size → (setAll cs o vs)[o + j]? = vs[j]?
  | [], _, _, _, h, _ => by simp at h
  | v :: r, o, cs, j, h, hs => by
    rw [setAll]
    cases j with
    | zero =>
      rw [setAll_out r (o + 1) _ (o + 0) (by omega), Array.getElem?_setIfInBounds, if_pos (by omega), if_pos (by omega)]; rfl
    | succ j =>
      have := setAll_in r (o + 1) (cs.setIfInBounds o v) j (by simpa using h) (by simp; omega)
      rw [show o + (j + 1) = o + 1 + j by omega, this]; rfl
theorem Blk.setCells {g : Nat} {t : TypeId} : ∀ (vs : List Value) (o : Nat) (w : World) (cs : Array Value), Blk w g t cs → Blk (w.setCells g o vs) g t (setAll cs o vs)
  | [], _, _, _, h => h
  | v :: r, o, w, cs, h => Blk.setCells r (o + 1) (w.setCell ⟨g, o, none⟩ v) (cs.setIfInBounds o v) (h.set_ o v)
theorem Blk.setWhole {w : World} {g : Nat} {t : TypeId} {cs : Array Value} (h : Blk w g t cs) (vs : List Value) (hl : cs.size = vs.length) : Blk (w.setCells g 0 vs) g t vs.toArray := by
  have h2 := Blk.setCells vs 0 w cs h
  have e : setAll cs 0 vs = vs.toArray := by
    apply Array.ext_getElem?
    intro j
    by_cases hj : j < vs.length
    · have := setAll_in vs 0 cs j hj (by omega)
      rw [Nat.zero_add] at this
      rw [this]; simp
    · rw [Array.getElem?_eq_none (by rw [setAll_size]; omega), Array.getElem?_eq_none (by simp; omega)]
  rw [e] at h2; exact h2
theorem Blk.range {w : World} {g : Nat} {t : TypeId} {cs : Array Value} (h : Blk w g t cs) (vs : List Value) (hv : cs = vs.toArray) : w.rangeAt g 0 vs := fun j v hj => by
  rw [Nat.zero_add, h.cell j, hv]; simpa using hj
theorem Blk.there {w : World} {g : Nat} {t : TypeId} {cs : Array Value} (h : Blk w g t cs) (n : Nat) (hn : n ≤ cs.size) : w.there g 0 n := fun j hj => by
  rw [Nat.zero_add]
  refine ⟨?_, h.frozen j⟩
  rw [h.cell j, Array.getElem?_eq_getElem (by omega)]; rfl
end
theorem size25 : (Try.prog.info? 25).map (·.size) = some 9 := by kernel_rfl
theorem hdr_one (X : Nat → Int) : (hdr X).all (·.oneCell') = true := by unfold hdr; simp [Value.oneCell']

set_option maxRecDepth 100000 in
set_option maxHeartbeats 1600000 in
theorem rc_raw (C : Nat → Cx) (N : Int) (A : Option Addr) (n c : Nat) (z : Nat → Int) (w : World) (he : ckErr n = 0) (hp : pErr n z ≠ 0) (hnc : n ≤ c) (hz : ∀ j, j < n → 0 ≤ z j ∧ z j < 256) (hr : Row w w.heap.size A n (fun j => .int .u8 (z j))) :
    Calls Try.prog 69 #[.agg (rcArr C N), .slice A n c] w (ROut (1 + n) (joinY 192 z) 0 C N w) := by
  obtain ⟨n0, n9⟩ := ckErr_zero n he
  have hz0 := zero70
  have HRC := Lib.hid (fun W => rcheck_ok A n c W)
  rw [he] at HRC
  have HP := Lib.hid (fun (W : World) (hR : Row W W.heap.size A n (fun j => .int .u8 (z j))) => rparse_any A n c z hnc hz W hR)
  unfold RParseEnd at HP
  obtain ⟨PL, hPL⟩ : ∃ PL, PL = pLen n z := ⟨_, rfl⟩
  obtain ⟨E, hE⟩ : ∃ E, E = pErr n z := ⟨_, rfl⟩
  obtain ⟨H9, hH9⟩ : ∃ H9, H9 = hdr (pHdr n z) := ⟨_, rfl⟩
  rw [← hPL, ← hE, ← hH9] at HP
  rw [← hE] at hp
  have HS9 : Hid ((Try.prog.info? 25).map (·.size) = some H9.size) := Lib.hid (by rw [hH9]; exact size25)
  have HN9 : Hid (9 = H9.size) := Lib.hid (by rw [hH9]; rfl)
  have HO9 : Hid (H9.all (·.oneCell') = true) := Lib.hid (by rw [hH9]; exact hdr_one _)
  have e1 : (E != 0) = true := by simpa using hp
  obtain ⟨L, hL⟩ : ∃ L : List Value, L = (rcArr C N).toList := ⟨_, rfl⟩
  have hL2 : rcArr C N = L.toArray := by rw [hL]
  obtain ⟨Z, hZ⟩ : ∃ Z, Z = rcArr (fun _ => zeroC) 0 := ⟨_, rfl⟩
  have hl225 : L.length = 225 := by rw [hL, Array.length_toList, rcArr_size]
  have HL225 := Lib.hid hl225
  have HSZ : Hid ((Try.prog.info? 70).map (·.size) = some L.length) := Lib.hid (by rw [hl225]; exact size70)
  have HZS : Hid (Z.size = L.length) := Lib.hid (by rw [hZ, hl225, rcArr_size])
  have HOL : Hid (∀ v ∈ L, v.oneCell' = true) := Lib.hid (by
    intro v hv
    have := rc_one C N
    rw [Array.all_eq_true] at this
    rw [hL] at hv
    obtain ⟨i, hi, e⟩ := List.getElem_of_mem hv
    rw [← e]
    simpa using this i (by simpa using hi))
  have HL := Lib.hid hL2
  rw [← hZ] at hz0
  unfold ROut
  rw [hL2]
  have HR := Lib.hid hr
  obtain ⟨i0, hi, hz1, hz2, hz3⟩ := info_parts Try.infoByte
  clear hL hL2 hZ hl225 hr hPL hE hH9 hp he
  go_enter Try.func69, Try.ntmps69
  go_wp2_with (first
    | (go_at_call 35; refine (HRC.out _).mono ?_; rintro e w1 ⟨rfl, rfl⟩)
    | (go_at_call 17; refine (HP.out _ (row_new (row_new HR.out _) _)).mono ?_; rintro e w2 ⟨P, c2, rfl, hc2, hRP, b2⟩; have RP := Lib.hid hRP; have R2 := Lib.hid (((Blk.new w 70 L.toArray).alloc (.cells Z 70)).below b2 (by simp; omega)); have O2 := Lib.hid ((blk_at (w.alloc (.cells L.toArray 70)) 70 Z (w.heap.size + 1) (by simp)).below b2 (by simp)); have B2 := Lib.hid ((((Below.refl _ w).alloc (Nat.le_refl _) (.cells L.toArray 70)).alloc (by simp) (.cells Z 70)).trans (b2.mono (by simp; omega)) : Below w.heap.size w w2); clear hRP b2)
    | (refine wpList_store_row rfl _ _ _ rfl w2.heap.size H9 rfl rfl 25 _ (Blk.new w2 _ _) HS9.out HN9.out HO9.out ?_))
  obtain ⟨W3, hW3⟩ : ∃ W3, W3 = (w2.alloc (.cells #[.int .i64 0, .int .i64 0, .int .i64 0, .int .i64 0, .int .i64 0, .int .i64 0, .int .i64 0, .int .i64 0, .int .i64 0] 25)).setRow w2.heap.size H9 := ⟨_, rfl⟩
  have R3 := Lib.hid (show Blk W3 w.heap.size 70 L.toArray from by rw [hW3]; exact (R2.out.alloc _).farRow (by have := R2.out.lt; omega))
  have O3 := Lib.hid (show Blk W3 (w.heap.size + 1) 70 Z from by rw [hW3]; exact (O2.out.alloc _).farRow (by have := O2.out.lt; omega))
  have B3 := Lib.hid (show Below w.heap.size w W3 from by rw [hW3]; exact belowRow (below_new B2.out _) B2.out.size _)
  rw [← hW3]
  clear hW3
  have RA := Lib.hid ((HR.out.below B3.out).more B3.out.size)
  have hu := Try.underlying70
  have hiz := HSZ.out
  have hl2 := HL225.out
  have hol := HOL.out
  have hra : W3.rangeAt w.heap.size 0 L := R3.out.range L rfl
  have hth : W3.there (w.heap.size + 1) 0 225 := O3.out.there 225 (by rw [HZS.out, HL225.out]; exact Nat.le_refl _)
  refine wp_region_held_drew (S := fun w' => w'.rangeAt w.heap.size 0 L ∧ w'.there (w.heap.size + 1) 0 225) (by kernel_rfl) ⟨hra, hth⟩ (fun hHeld => ?_)
  refine' wpAnyH_take (i := 0) (oi := _) (v := _) rfl (by kernel_rfl) (by kernel_rfl) (by kernel_rfl) (fun _ _ _ h => h) (yieldsIf_load_mid (by rfl) _ _ rfl _ _ rfl L _ (fun w h => h.1) hu rfl hiz) (by assumption) ?_
  simp only [Act.put, List.setIfInBounds_toArray]
  refine wpAnyH_take (i := 2) (oi := _) (v := .slice A n c) rfl (by kernel_rfl) (by kernel_rfl) (by kernel_rfl) (fun _ _ _ h => h) (Or.inl ⟨by rfl, fun W _ => by rfl⟩) (by assumption) ?_
  simp only [Act.put]
  refine wpAnyH_ready (rs := [1]) (by kernel_rfl) (by simp) ?_
  refine AllReadyH.cons (o := _) rfl (fun K hK => ?_) AllReadyH.nil
  go_simp
  refine hK.out _ _ ⟨by simpa using World.rangeAt_alloc hra (.cells #[.int .u8 192] 5), by simpa using World.there_alloc hth (.cells #[.int .u8 192] 5)⟩ (fun hHeld => ?_)
  clear hK K
  refine wpAnyH_ready (rs := [3]) (by kernel_rfl) (by simp) ?_
  refine AllReadyH.cons (o := _) rfl (fun K hK => ?_) AllReadyH.nil
  refine step_append_src (by rfl) _ _ 22 (by rfl) W3.heap.size 5 i0 (.int .u8 0) 1 Try.underlying22 hi hz1 hz2 hz3 rfl _ 1 [.int .u8 192] (by rfl) (World.ownsRow_lit (base := W3.heap.size) W3 #[.int .u8 192] 1 (Nat.le_refl _) (by decide) rfl).drew W3.heap.size A n c (fun j => .int .u8 (z j)) (by rfl) (RA.out.alloc (Nat.le_refl _) _).drew (fun _ => rfl) (by unfold maxLen; omega) (by omega) (by simp) ?_
  intro v6 w6 hown6 hg6 _
  have B36 := Lib.hid (show Below W3.heap.size W3 w6 from (((Below.refl _ W3).alloc (Nat.le_refl _) _).drew).grown hg6 (by simp) (fun k e => by simp [Value.ownBlock] at e; omega))
  have R6 := Lib.hid (R3.out.below B36.out R3.out.lt)
  have O6 := Lib.hid (O3.out.below B36.out O3.out.lt)
  have hra6 : w6.rangeAt w.heap.size 0 L := R6.out.range L rfl
  have hth6 : w6.there (w.heap.size + 1) 0 225 := O6.out.there 225 (by rw [HZS.out, HL225.out]; exact Nat.le_refl _)
  have HO6 := Lib.hid hown6
  clear hown6 hg6
  refine hK.out _ _ ⟨hra6, hth6⟩ (fun hHeld => ?_)
  clear hK K
  simp only [Act.put]
  refine wpAnyH_ready (rs := [4]) (by kernel_rfl) (by simp) ?_
  refine AllReadyH.cons (o := _) rfl (fun K hK => ?_) AllReadyH.nil
  rw [if_pos (by rfl)]
  refine wp_store_mid _ _ _ rfl _ _ L.toArray rfl rfl (by simpa [HL225.out] using hth6) (by simpa using hiz) (all_oneCell_toArray HOL.out) ?_
  refine hK.out _ _ ⟨World.rangeAt_setCells_apart hra6 _ _ _ (by omega), World.there_setCells hth6 _ _ _⟩ (fun hHeld => ?_)
  clear hK K
  simp only [Act.put]
  refine wpAnyH_take (i := 5) (oi := _) (v := v6) rfl (by kernel_rfl) (by kernel_rfl) (by kernel_rfl) (fun _ _ _ h => h) (Or.inl ⟨by rfl, fun W _ => by rfl⟩) (by assumption) ?_
  simp only [Act.put]
  refine wpAnyH_take (i := 6) (oi := _) (v := .int .i64 0) rfl (by kernel_rfl) (by kernel_rfl) (by kernel_rfl) (fun _ _ _ h => h) (Or.inl ⟨by rfl, fun W _ => by rfl⟩) (by assumption) ?_
  simp only [Act.put]
  refine wpAnyH_done (by kernel_rfl) ?_ _
  go_wp2
  obtain ⟨A6, c6, hv, hc6, _, hf6, hr6⟩ := own_any (f := fun j => .int .u8 (joinY 192 z j)) HO6.out (fun j hj => by
    rw [one_news _ _ _ j hj]
    unfold joinY
    split <;> rfl)
  subst hv
  have hK : Keep1 (w.heap.size + 1) w6 (w6.setCells (w.heap.size + 1) 0 L) := grownBy_setCells (w.heap.size + 1) L 0 w6
  have hO3 := O3.out.lt
  refine bodyPost_ret (v := .tuple #[.agg L.toArray, .slice A6 (1 + n) c6, .int .i64 0]) (results_cell_two (g := w.heap.size + 1) (t := 70) (fr := (0, 0)) Try.results69 _ _ L.toArray _ rfl (O6.out.setWhole L HZS.out) Try.underlying70 rfl (by simpa using hiz) _ _ rfl rfl) rfl ⟨A6, c6, rfl, hc6, ?_, ?_⟩
  · exact (hK.row hr6 (Nat.le_refl _) (fun a e => by have := hf6 a e; omega)).more hK.size
  · exact below_setCells (B3.out.trans (B36.out.mono B3.out.size)) (by omega) (Nat.le_trans B3.out.size B36.out.size) _ _
end Go.Proofs.Ytejadoadpgcpjaa
namespace Go.Proofs.Ytejadoadpgcpjaa
open Go.RowKit

attribute [local go_sem ↓] Go.wp_at_zero Go.wp_at_succ

theorem wpQuiet_load_row {P : Program} {ops : Array Oper} {C : World → Prop} {Q : Act → Prop} {a : Act} {o : Oper} {rest : List Oper} (hgd : o.guard = none) (ty : TypeId) (x : Operand) (ho : o.op = .load ty x)
    (g : Nat) (hx : a.eval x = .pointer (some ⟨g, 0, none⟩)) (t : TypeId) (cs : Array Value) (d : TypeDesc) (hg : ∀ w, C w → Blk w g t cs)
    (hu : P.underlying ty = some d) (hd : (match d with | .struct _ | .array _ _ => true | _ => false) = true) (hi : (P.info? ty).map (·.size) = some cs.size)
    (h : wpQuiet P ops C Q rest (a.put o.dst (.agg cs))) : wpQuiet P ops C Q (o :: rest) a := by
  unfold wpQuiet
  rw [if_pos (by simp [Region.wanted, hgd])]
  refine ⟨.agg cs, fun w hw => ?_, h⟩
  unfold Oper.quietAt execOp
  simp only [ho, hx, Instr.loadAt, Instr.sureAddr, Sem.run_bind, Sem.run_pure, Result.andThen_ok, run_loadVar_row w g t ty cs (0, 0) d (hg w hw) hu hd hi]
  exact ⟨rfl, rfl⟩

theorem Keep1.row2 {g B n : Nat} {A : Option Addr} {v : Nat → Value} {w w' : World} (h : Keep1 g w w') (hr : Row w B A n v) (hB : B ≤ w.heap.size) (hg : B ≤ g) : Row w' B A n v := fun hn => by
  obtain ⟨b, off, e, hb, hc⟩ := hr hn
  exact ⟨b, off, e, hb, fun j hj => (World.cell?_of_block (h.block b (by omega) (fun e => by cases e; omega))).trans (hc j hj)⟩
theorem rc_int (C : Nat → Cx) (N : Int) (j : Nat) (x : Int) : (rcArr C N)[j]? ≠ some (.int .u8 x) := by
  by_cases hj : j < 225
  · rw [rcArr_at C N j hj]
    unfold rcVal
    split
    · simp
    · have h14 : j % 14 < 14 := Nat.mod_lt _ (by decide)
      exact fourteen (p := fun k => some ((C (j / 14)).cell k) ≠ some (.int .u8 x)) (by simp [Cx.cell, Cx.cells]) (by simp [Cx.cell, Cx.cells]) (by simp [Cx.cell, Cx.cells]) (by simp [Cx.cell, Cx.cells]) (by simp [Cx.cell, Cx.cells]) (by simp [Cx.cell, Cx.cells]) (by simp [Cx.cell, Cx.cells]) (by simp [Cx.cell, Cx.cells]) (by simp [Cx.cell, Cx.cells]) (by simp [Cx.cell, Cx.cells]) (by simp [Cx.cell, Cx.cells]) (by simp [Cx.cell, Cx.cells]) (by simp [Cx.cell, Cx.cells]) (by simp [Cx.cell, Cx.cells]) _ h14
  · rw [Array.getElem?_eq_none (by rw [rcArr_size]; omega)]; simp
theorem row_rc {W : World} {B m g : Nat} {P : Option Addr} {y : Nat → Int} {C : Nat → Cx} {N : Int} (h : Row W B P m (fun j => .int .u8 (y j))) (hB : Blk W g 70 (rcArr C N)) : ∀ a, P = some a → m ≠ 0 → a.block ≠ g := fun a e hm hg => by
  obtain ⟨b, off, e2, _, hc⟩ := h (by omega)
  rw [e] at e2
  cases e2
  have h0 := hc 0 (by omega)
  have hg2 : b = g := hg
  subst hg2
  rw [hB.cell] at h0
  exact rc_int C N _ _ h0
/-- what the walk knows from the place of the context on -/
structure RM (w W : World) (C : Nat → Cx) (N : Int) (X : Nat → Int) (hb : Nat) (A : Option Addr) (n : Nat) (P : Option Addr) (z : Nat → Int) : Prop where
  r : RB W w.heap.size C N
  o : Blk W (w.heap.size + 1) 70 (rcArr (fun _ => zeroC) 0)
  h : Blk W hb 25 (hdr X)
  lt : w.heap.size + 1 < hb
  ra : Row W w.heap.size A n (fun j => .int .u8 (z j))
  rp : Row W hb P (n - 20) (fun j => .int .u8 (z (20 + j)))
  rpo : ∀ a, P = some a → n - 20 ≠ 0 → a.block ≠ w.heap.size ∧ a.block ≠ w.heap.size + 1
  b : Below w.heap.size w W
theorem RM.next {w W W' : World} {C : Nat → Cx} {N : Int} {X : Nat → Int} {hb : Nat} {A : Option Addr} {n : Nat} {P : Option Addr} {z : Nat → Int} (m : RM w W C N X hb A n P z) (b : Below W.heap.size W W') : RM w W' C N X hb A n P z :=
  ⟨m.r.below b m.r.lt, m.o.below b m.o.lt, m.h.below b m.h.lt, m.lt, m.ra.below (b.mono m.b.size), m.rp.below (b.mono (Nat.le_of_lt m.h.lt)), m.rpo, below_step m.b b⟩
theorem RM.keepx {w W W' : World} {C : Nat → Cx} {N : Int} {X : Nat → Int} {hb xb : Nat} {A : Option Addr} {n : Nat} {P : Option Addr} {z : Nat → Int} (m : RM w W C N X hb A n P z) (k : Keep1 xb W W') (hx : hb < xb) : RM w W' C N X hb A n P z := by
  have := m.lt
  have := m.b.size
  have := m.h.lt
  exact ⟨k.blk m.r (by omega), k.blk m.o (by omega), k.blk m.h (by omega), m.lt, k.row2 m.ra (by omega) (by omega), k.row2 m.rp (by omega) (by omega), m.rpo, below_keep m.b k (by omega) (by omega)⟩
theorem RM.keepr {w W W' : World} {C C' : Nat → Cx} {N N' : Int} {X : Nat → Int} {hb : Nat} {A : Option Addr} {n : Nat} {P : Option Addr} {z : Nat → Int} (m : RM w W C N X hb A n P z) (k : Keep1 w.heap.size W W') (r' : RB W' w.heap.size C' N') : RM w W' C' N' X hb A n P z := by
  have h1 := m.lt
  have h2 := m.b.size
  have h3 := m.h.lt
  refine ⟨r', k.blk m.o (by omega), k.blk m.h (by omega), m.lt, k.row2 m.ra (by omega) (Nat.le_refl _), ?_, m.rpo, below_keep m.b k (Nat.le_refl _) h2⟩
  by_cases hn : n - 20 = 0
  · rw [hn]; exact Row.nil
  · exact k.row m.rp (by omega) (fun a e => (m.rpo a e hn).1)

def sameB (x : Cx) (X : Nat → Int) : Bool := x.used && (sameFlow x.h0 x.h1 x.h2 x.h3 x.h4 (X 0) (X 1) (X 2) (X 3) (X 4) && !x.need)

theorem set_delta (w : World) (g : Nat) (t : TypeId) (a0 a1 a2 a3 a4 a5 a6 a7 a8 a9 a10 a11 a12 a13 b1 b2 b3 b4 b5 b6 b7 b8 b9 b11 : Value) (h : Blk w g t #[a0, a1, a2, a3, a4, a5, a6, a7, a8, a9, a10, a11, a12, a13]) : Blk ((((((((((w.setCell ⟨g, 1, none⟩ b1).setCell ⟨g, 2, none⟩ b2).setCell ⟨g, 3, none⟩ b3).setCell ⟨g, 4, none⟩ b4).setCell ⟨g, 5, none⟩ b5).setCell ⟨g, 6, none⟩ b6).setCell ⟨g, 7, none⟩ b7).setCell ⟨g, 8, none⟩ b8).setCell ⟨g, 9, none⟩ b9).setCell ⟨g, 11, none⟩ b11) g t #[a0, b1, b2, b3, b4, b5, b6, b7, b8, b9, a10, b11, a12, a13] := by
  replace h := h.set_ 1 b1
  rw [show (#[a0, a1, a2, a3, a4, a5, a6, a7, a8, a9, a10, a11, a12, a13] : Array Value).setIfInBounds 1 b1 = #[a0, b1, a2, a3, a4, a5, a6, a7, a8, a9, a10, a11, a12, a13] from rfl] at h
  replace h := h.set_ 2 b2
  rw [show (#[a0, b1, a2, a3, a4, a5, a6, a7, a8, a9, a10, a11, a12, a13] : Array Value).setIfInBounds 2 b2 = #[a0, b1, b2, a3, a4, a5, a6, a7, a8, a9, a10, a11, a12, a13] from rfl] at h
  replace h := h.set_ 3 b3
  rw [show (#[a0, b1, b2, a3, a4, a5, a6, a7, a8, a9, a10, a11, a12, a13] : Array Value).setIfInBounds 3 b3 = #[a0, b1, b2, b3, a4, a5, a6, a7, a8, a9, a10, a11, a12, a13] from rfl] at h
  replace h := h.set_ 4 b4
  rw [show (#[a0, b1, b2, b3, a4, a5, a6, a7, a8, a9, a10, a11, a12, a13] : Array Value).setIfInBounds 4 b4 = #[a0, b1, b2, b3, b4, a5, a6, a7, a8, a9, a10, a11, a12, a13] from rfl] at h
  replace h := h.set_ 5 b5
  rw [show (#[a0, b1, b2, b3, b4, a5, a6, a7, a8, a9, a10, a11, a12, a13] : Array Value).setIfInBounds 5 b5 = #[a0, b1, b2, b3, b4, b5, a6, a7, a8, a9, a10, a11, a12, a13] from rfl] at h
  replace h := h.set_ 6 b6
  rw [show (#[a0, b1, b2, b3, b4, b5, a6, a7, a8, a9, a10, a11, a12, a13] : Array Value).setIfInBounds 6 b6 = #[a0, b1, b2, b3, b4, b5, b6, a7, a8, a9, a10, a11, a12, a13] from rfl] at h
  replace h := h.set_ 7 b7
  rw [show (#[a0, b1, b2, b3, b4, b5, b6, a7, a8, a9, a10, a11, a12, a13] : Array Value).setIfInBounds 7 b7 = #[a0, b1, b2, b3, b4, b5, b6, b7, a8, a9, a10, a11, a12, a13] from rfl] at h
  replace h := h.set_ 8 b8
  rw [show (#[a0, b1, b2, b3, b4, b5, b6, b7, a8, a9, a10, a11, a12, a13] : Array Value).setIfInBounds 8 b8 = #[a0, b1, b2, b3, b4, b5, b6, b7, b8, a9, a10, a11, a12, a13] from rfl] at h
  replace h := h.set_ 9 b9
  rw [show (#[a0, b1, b2, b3, b4, b5, b6, b7, b8, a9, a10, a11, a12, a13] : Array Value).setIfInBounds 9 b9 = #[a0, b1, b2, b3, b4, b5, b6, b7, b8, b9, a10, a11, a12, a13] from rfl] at h
  replace h := h.set_ 11 b11
  rw [show (#[a0, b1, b2, b3, b4, b5, b6, b7, b8, b9, a10, a11, a12, a13] : Array Value).setIfInBounds 11 b11 = #[a0, b1, b2, b3, b4, b5, b6, b7, b8, b9, a10, b11, a12, a13] from rfl] at h
  exact h
theorem set_full (w : World) (g : Nat) (t : TypeId) (a0 a1 a2 a3 a4 a5 a6 a7 a8 a9 a10 a11 a12 a13 b0 b1 b2 b3 b4 b5 b6 b7 b8 b9 b11 b12 : Value) (h : Blk w g t #[a0, a1, a2, a3, a4, a5, a6, a7, a8, a9, a10, a11, a12, a13]) : Blk ((((((((((((w.setCell ⟨g, 0, none⟩ b0).setCell ⟨g, 1, none⟩ b1).setCell ⟨g, 2, none⟩ b2).setCell ⟨g, 3, none⟩ b3).setCell ⟨g, 4, none⟩ b4).setCell ⟨g, 5, none⟩ b5).setCell ⟨g, 6, none⟩ b6).setCell ⟨g, 7, none⟩ b7).setCell ⟨g, 8, none⟩ b8).setCell ⟨g, 9, none⟩ b9).setCell ⟨g, 11, none⟩ b11).setCell ⟨g, 12, none⟩ b12) g t #[b0, b1, b2, b3, b4, b5, b6, b7, b8, b9, a10, b11, b12, a13] := by
  replace h := h.set_ 0 b0
  rw [show (#[a0, a1, a2, a3, a4, a5, a6, a7, a8, a9, a10, a11, a12, a13] : Array Value).setIfInBounds 0 b0 = #[b0, a1, a2, a3, a4, a5, a6, a7, a8, a9, a10, a11, a12, a13] from rfl] at h
  replace h := h.set_ 1 b1
  rw [show (#[b0, a1, a2, a3, a4, a5, a6, a7, a8, a9, a10, a11, a12, a13] : Array Value).setIfInBounds 1 b1 = #[b0, b1, a2, a3, a4, a5, a6, a7, a8, a9, a10, a11, a12, a13] from rfl] at h
  replace h := h.set_ 2 b2
  rw [show (#[b0, b1, a2, a3, a4, a5, a6, a7, a8, a9, a10, a11, a12, a13] : Array Value).setIfInBounds 2 b2 = #[b0, b1, b2, a3, a4, a5, a6, a7, a8, a9, a10, a11, a12, a13] from rfl] at h
  replace h := h.set_ 3 b3
  rw [show (#[b0, b1, b2, a3, a4, a5, a6, a7, a8, a9, a10, a11, a12, a13] : Array Value).setIfInBounds 3 b3 = #[b0, b1, b2, b3, a4, a5, a6, a7, a8, a9, a10, a11, a12, a13] from rfl] at h
  replace h := h.set_ 4 b4
  rw [show (#[b0, b1, b2, b3, a4, a5, a6, a7, a8, a9, a10, a11, a12, a13] : Array Value).setIfInBounds 4 b4 = #[b0, b1, b2, b3, b4, a5, a6, a7, a8, a9, a10, a11, a12, a13] from rfl] at h
  replace h := h.set_ 5 b5
  rw [show (#[b0, b1, b2, b3, b4, a5, a6, a7, a8, a9, a10, a11, a12, a13] : Array Value).setIfInBounds 5 b5 = #[b0, b1, b2, b3, b4, b5, a6, a7, a8, a9, a10, a11, a12, a13] from rfl] at h
  replace h := h.set_ 6 b6
  rw [show (#[b0, b1, b2, b3, b4, b5, a6, a7, a8, a9, a10, a11, a12, a13] : Array Value).setIfInBounds 6 b6 = #[b0, b1, b2, b3, b4, b5, b6, a7, a8, a9, a10, a11, a12, a13] from rfl] at h
  replace h := h.set_ 7 b7
  rw [show (#[b0, b1, b2, b3, b4, b5, b6, a7, a8, a9, a10, a11, a12, a13] : Array Value).setIfInBounds 7 b7 = #[b0, b1, b2, b3, b4, b5, b6, b7, a8, a9, a10, a11, a12, a13] from rfl] at h
  replace h := h.set_ 8 b8
  rw [show (#[b0, b1, b2, b3, b4, b5, b6, b7, a8, a9, a10, a11, a12, a13] : Array Value).setIfInBounds 8 b8 = #[b0, b1, b2, b3, b4, b5, b6, b7, b8, a9, a10, a11, a12, a13] from rfl] at h
  replace h := h.set_ 9 b9
  rw [show (#[b0, b1, b2, b3, b4, b5, b6, b7, b8, a9, a10, a11, a12, a13] : Array Value).setIfInBounds 9 b9 = #[b0, b1, b2, b3, b4, b5, b6, b7, b8, b9, a10, a11, a12, a13] from rfl] at h
  replace h := h.set_ 11 b11
  rw [show (#[b0, b1, b2, b3, b4, b5, b6, b7, b8, b9, a10, a11, a12, a13] : Array Value).setIfInBounds 11 b11 = #[b0, b1, b2, b3, b4, b5, b6, b7, b8, b9, a10, b11, a12, a13] from rfl] at h
  replace h := h.set_ 12 b12
  rw [show (#[b0, b1, b2, b3, b4, b5, b6, b7, b8, b9, a10, b11, a12, a13] : Array Value).setIfInBounds 12 b12 = #[b0, b1, b2, b3, b4, b5, b6, b7, b8, b9, a10, b11, b12, a13] from rfl] at h
  exact h
theorem body_at (S : Nat → Rx) (T : Int) (X : Nat → Int) (n : Nat) (z : Nat → Int) (j : Nat) : cBody S T X n z j = if j < cLen S T X then cHead S T X z j else z (20 + (j - cLen S T X)) := by
  unfold cBody
  simp [catY, tot]
theorem cLen_le (S : Nat → Rx) (T : Int) (X : Nat → Int) : cLen S T X ≤ 19 := by
  unfold cLen
  split
  · omega
  · split <;> omega
theorem RB.setCtx {w : World} {g : Nat} {C : Nat → Cx} {N : Int} (h : RB w g C N) {i : Nat} (hi : i < 16) (c : Cx) : RB (w.setCells g (i * 14) c.cells) g (updC C i c) N := by
  have h2 := Blk.setCells c.cells (i * 14) w _ h
  have hl : c.cells.length = 14 := rfl
  have e : setAll (rcArr C N) (i * 14) c.cells = rcArr (updC C i c) N := by
    refine rcArr_ext (by rw [setAll_size, rcArr_size]) ?_ ?_
    · rw [setAll_out _ _ _ _ (by rw [hl]; omega)]; exact rcArr_at _ _ 224 (by decide)
    · intro i2 k hi2 hk
      by_cases hii : i2 = i
      · subst hii
        have e1 : updC C i2 c i2 = c := if_pos rfl
        rw [e1, show 14 * i2 + k = i2 * 14 + k by omega, setAll_in _ _ _ _ (by rw [hl]; exact hk) (by rw [rcArr_size]; omega)]
        exact Cx.cell_at c k hk
      · have e1 : updC C i c i2 = C i2 := if_neg hii
        rw [e1, setAll_out _ _ _ _ (by rw [hl]; omega)]
        exact rcArr_ctx _ _ _ _ hi2 hk
  rw [e] at h2
  exact h2
theorem RB.there {w : World} {g : Nat} {C : Nat → Cx} {N : Int} (h : RB w g C N) {i : Nat} (hi : i < 16) : w.there g (i * 14) 14 := fun j hj => by
  refine ⟨?_, h.fr _⟩
  rw [h.ctx hi j hj (by omega)]; rfl
theorem slice18b (lb lo n c : Nat) (h18 : 18 ≤ c) : ∀ w, (Instr.slice 22 (.slice (some ⟨lb, lo, none⟩) n c) none (some (.int .i64 18)) none).run Try.prog w = .ok (.slice (some ⟨lb, lo, none⟩) 18 c) w := fun w => by
  have hm0 : (18 : Int) ≤ (c : Int) := by omega
  simp [go_sem, hm0]
theorem rkind (x : Cx) (X : Nat → Int) (t kn kt : Int) (hn : kn = (X 6 - x.h6) % 65536) (ht : kt = (X 7 - x.h7) % 16777216) :
    kindOf { x.rx with turn := t } (X 0) (X 1) (X 2) (X 3) (X 4) (X 5) (X 6) (X 7) = if sameB x X = true ∧ 1 ≤ kn ∧ kn ≤ 255 then (if X 5 = x.h5 ∧ kt = x.step * kn % 16777216 then 2 else if kt < 65536 then 1 else 0) else 0 := by
  have e1 : kN { x.rx with turn := t } (X 6) = kn := by rw [hn]; rfl
  have e2 : kT { x.rx with turn := t } (X 7) = kt := by rw [ht]; rfl
  have e3 : noKind { x.rx with turn := t } (X 0) (X 1) (X 2) (X 3) (X 4) (X 6) = (!(sameB x X) || (decide (kn < 1) || decide (255 < kn))) := by
    unfold noKind sameB
    rw [e1]
    show (!x.used || (x.need || (!sameFlow x.h0 x.h1 x.h2 x.h3 x.h4 (X 0) (X 1) (X 2) (X 3) (X 4) || (decide (kn < 1) || decide (255 < kn))))) = _
    cases x.used <;> cases x.need <;> cases sameFlow x.h0 x.h1 x.h2 x.h3 x.h4 (X 0) (X 1) (X 2) (X 3) (X 4) <;> rfl
  unfold kindOf
  rw [e1, e2, e3]
  by_cases hs : sameB x X = true ∧ 1 ≤ kn ∧ kn ≤ 255
  · obtain ⟨a, b, c⟩ := hs
    rw [if_pos (⟨a, b, c⟩ : sameB x X = true ∧ 1 ≤ kn ∧ kn ≤ 255)]
    exact if_neg (by rw [a]; simp; omega)
  · rw [if_neg hs]
    refine if_pos ?_
    simp only [Bool.or_eq_true, Bool.not_eq_true', decide_eq_true_eq]
    by_cases a : sameB x X = true
    · right
      by_cases b : kn < 1
      · exact .inl b
      · right
        by_cases c : 255 < kn
        · exact c
        · exact absurd ⟨a, by omega, by omega⟩ hs
    · left; simpa using a
/-- what the switch leaves: the header's bytes, the new context -/
def RCut (w : World) (C : Nat → Cx) (N : Int) (X : Nat → Int) (hb xb : Nat) (A : Option Addr) (n : Nat) (P : Option Addr) (z : Nat → Int) (v : Value) (wx : World) : Prop :=
  ∃ q cq, v = .slice (some ⟨q, 0, none⟩) (1 + cLen (crx C) N X) cq ∧ wx.ownsRow (xb + 1) 5 1 v (1 + cLen (crx C) N X) ((List.range (1 + cLen (crx C) N X)).map fun j => .int .u8 (joinY (cFirst (crx C) N X) (cHead (crx C) N X z) j)) ∧ Blk wx xb 67 (rNew C N X).cells.toArray ∧ RM w wx C (N + 1) X hb A n P z

theorem RCut.of {w : World} {C : Nat → Cx} {N : Int} {X : Nat → Int} {hb xb : Nat} {A : Option Addr} {n : Nat} {P : Option Addr} {z : Nat → Int} {wx : World} (l : List Int) (q cq m : Nat) (hm : m = l.length) (hl : l.length = 1 + cLen (crx C) N X) (hy : ∀ j, j < l.length → l.getD j 0 = joinY (cFirst (crx C) N X) (cHead (crx C) N X z) j)
    (hown : wx.ownsRow (xb + 1) 5 1 (.slice (some ⟨q, 0, none⟩) m cq) m (l.map (Value.int .u8))) (hx : Blk wx xb 67 (rNew C N X).cells.toArray) (hM : RM w wx C (N + 1) X hb A n P z) : RCut w C N X hb xb A n P z (.slice (some ⟨q, 0, none⟩) m cq) wx := by
  subst hm
  have e : l.map (Value.int .u8) = (List.range (1 + cLen (crx C) N X)).map fun j => .int .u8 (joinY (cFirst (crx C) N X) (cHead (crx C) N X z) j) := by
    apply List.ext_getElem
    · simp [hl]
    · intro j h1 h2
      have hj : j < l.length := by simpa using h1
      have := hy j hj
      rw [List.getD, List.getElem?_eq_getElem hj] at this
      simp only [List.getElem_map, List.getElem_range]
      rw [← this]; rfl
  rw [e] at hown
  exact ⟨q, cq, by rw [hl], by rw [← hl]; rw [← hl] at hown; exact hown, hx, hM⟩

set_option maxRecDepth 100000 in
set_option maxHeartbeats 16000000 in
theorem rc_good (C : Nat → Cx) (N : Int) (A : Option Addr) (n c : Nat) (z : Nat → Int) (w : World) (ht : ∀ i, i < 16 → 0 ≤ (C i).turn) (hok : ∀ i, i < 16 → (C i).rx.Ok ∧ -1 ≤ (C i).gen ∧ (C i).gen < 256 ∧ ((C i).used = true → 0 ≤ (C i).gen)) (hN : 0 ≤ N ∧ N < 4611686018427387904) (hp : pErr n z = 0) (hnc : n ≤ c) (hz : ∀ j, j < n → 0 ≤ z j ∧ z j < 256) (hr : Row w w.heap.size A n (fun j => .int .u8 (z j))) :
    Calls Try.prog 69 #[.agg (rcArr C N), .slice A n c] w (ROut (1 + (cLen (crx C) N (pHdr n z) + (n - 20))) (joinY (cFirst (crx C) N (pHdr n z)) (cBody (crx C) N (pHdr n z) n z)) 0 (rState C N (pHdr n z)) (N + 1) w) := by
  obtain ⟨n20, n9, hLn⟩ := pErr_good n z hp
  have he : ckErr n = 0 := by unfold ckErr; rw [if_neg (by omega), if_neg (by omega)]
  have hz0 := zero70
  have HRC := Lib.hid (fun W => rcheck_ok A n c W)
  rw [he] at HRC
  have HP := Lib.hid (fun (W : World) (hR : Row W W.heap.size A n (fun j => .int .u8 (z j))) => rparse_any A n c z hnc hz W hR)
  unfold RParseEnd at HP
  rw [hLn, hp] at HP
  have b5 := pHdr_lt n z 5
  have b6 := pHdr_lt n z 6
  have b7 := pHdr_lt n z 7
  rw [show ((2 ^ pwd (5 + 1) : Nat) : Int) = 256 from by decide] at b5
  rw [show ((2 ^ pwd (6 + 1) : Nat) : Int) = 65536 from by decide] at b6
  rw [show ((2 ^ pwd (7 + 1) : Nat) : Int) = 16777216 from by decide] at b7
  obtain ⟨X, hX⟩ : ∃ X, X = pHdr n z := ⟨_, rfl⟩
  rw [← hX] at HP b5 b6 b7 ⊢
  obtain ⟨H9, hH9⟩ : ∃ H9, H9 = hdr X := ⟨_, rfl⟩
  rw [← hH9] at HP
  have HS9 : Hid ((Try.prog.info? 25).map (·.size) = some H9.size) := Lib.hid (by rw [hH9]; exact size25)
  have HN9 : Hid (9 = H9.size) := Lib.hid (by rw [hH9]; rfl)
  have HO9 : Hid (H9.all (·.oneCell') = true) := Lib.hid (by rw [hH9]; exact hdr_one _)
  have HH9 := Lib.hid hH9
  obtain ⟨L, hL⟩ : ∃ L, L = rcArr C N := ⟨_, rfl⟩
  obtain ⟨Z, hZ⟩ : ∃ Z, Z = rcArr (fun _ => zeroC) 0 := ⟨_, rfl⟩
  have HL := Lib.hid hL
  have HZ := Lib.hid hZ
  have HSZ : Hid ((Try.prog.info? 70).map (·.size) = some L.size) := Lib.hid (by rw [hL, rcArr_size]; exact size70)
  rw [← hZ] at hz0
  unfold ROut
  rw [← hL]
  have HR := Lib.hid hr
  have HT := Lib.hid ht
  obtain ⟨i, hi⟩ : ∃ i, i = cPlace (crx C) X := ⟨_, rfl⟩
  have hi16 : i < 16 := by rw [hi]; exact cPlace_lt _ X
  have HI := Lib.hid hi
  have HFI : Hid (∀ W : World, Calls Try.prog 95 #[.agg L, .agg #[.int .i64 (X 0), .int .i64 (X 1), .int .i64 (X 2), .int .i64 (X 3), .int .i64 (X 4)]] W fun e w' => e = .returned (.int .i64 (i : Nat)) ∧ Below W.heap.size W w') := Lib.hid (fun W => by rw [hL, hi]; exact rfind_ok C N (X 0) (X 1) (X 2) (X 3) (X 4) ht W)
  have HFL : Hid (∀ W : World, Calls Try.prog 36 #[.agg H9] W fun e w' => e = .returned (.agg #[.int .i64 (X 0), .int .i64 (X 1), .int .i64 (X 2), .int .i64 (X 3), .int .i64 (X 4)]) ∧ Below W.heap.size W w') := Lib.hid (fun W => by rw [hH9]; exact rflow_ok _ _ _ _ _ _ _ _ _ W)
  clear hL hZ hr hX hH9 hp he hi ht hLn hz
  go_enter Try.func69, Try.ntmps69
  go_wp2_with (first
    | (go_at_call 35; refine (HRC.out _).mono ?_; rintro e w1 ⟨rfl, rfl⟩)
    | (go_at_call 17; refine (HP.out _ (row_new (row_new HR.out _) _)).mono ?_; rintro e w2 ⟨P, c2, rfl, hc2, hRP, b2⟩; have RP := Lib.hid hRP; have R2 := Lib.hid (((Blk.new w 70 L).alloc (.cells Z 70)).below b2 (by simp; omega)); have O2 := Lib.hid ((blk_at (w.alloc (.cells L 70)) 70 Z (w.heap.size + 1) (by simp)).below b2 (by simp)); have B2 := Lib.hid ((((Below.refl _ w).alloc (Nat.le_refl _) (.cells L 70)).alloc (by simp) (.cells Z 70)).trans (b2.mono (by simp; omega)) : Below w.heap.size w w2); clear hRP b2)
    | (refine wpList_store_row rfl _ _ _ rfl w2.heap.size H9 rfl rfl 25 _ (Blk.new w2 _ _) HS9.out HN9.out HO9.out ?_))
  obtain ⟨hb, hhb⟩ : ∃ hb, hb = w2.heap.size := ⟨_, rfl⟩
  obtain ⟨W3, hW3⟩ : ∃ W3, W3 = (w2.alloc (.cells #[.int .i64 0, .int .i64 0, .int .i64 0, .int .i64 0, .int .i64 0, .int .i64 0, .int .i64 0, .int .i64 0, .int .i64 0] 25)).setRow w2.heap.size H9 := ⟨_, rfl⟩
  have M3 := Lib.hid (show RM w W3 C N X hb A n P z from by
    have r3 : RB W3 w.heap.size C N := by rw [hW3]; unfold RB; rw [← HL.out]; exact (R2.out.alloc _).farRow (by have := R2.out.lt; omega)
    have b3 : Below w.heap.size w W3 := by rw [hW3]; exact belowRow (below_new B2.out _) B2.out.size _
    have b23 : Below w2.heap.size w2 W3 := by rw [hW3]; exact belowRow ((Below.refl _ w2).alloc (Nat.le_refl _) _) (Nat.le_refl _) _
    have rp2 : Row W3 hb P (n - 20) (fun j => .int .u8 (z (20 + j))) := by rw [hhb]; exact RP.out.below b23
    have o3 : Blk W3 (w.heap.size + 1) 70 (rcArr (fun _ => zeroC) 0) := by rw [hW3, ← HZ.out]; exact (O2.out.alloc _).farRow (by have := O2.out.lt; omega)
    refine ⟨r3, o3, ?_, ?_, HR.out.below b3, rp2, fun a e hm => ⟨row_rc rp2 r3 a e hm, row_rc rp2 o3 a e hm⟩, b3⟩
    · rw [hW3, hhb, ← HH9.out]; exact Blk.setRow (Blk.new w2 _ _)
    · rw [hhb]; exact O2.out.lt)
  rw [← hW3, ← hhb]
  clear hW3 hhb
  refine wp_region_ext (by kernel_rfl) (by kernel_rfl) ?_
  refine wpQuiet_load_row rfl _ _ rfl w.heap.size rfl 70 L _ (fun W ⟨e, he⟩ => by rw [he, HL.out]; exact M3.out.r.below e.h M3.out.r.lt) Try.underlying70 rfl HSZ.out ?_
  refine wpQuiet_load_row rfl _ _ rfl hb rfl 25 H9 _ (fun W ⟨e, he⟩ => by rw [he, HH9.out]; exact M3.out.h.below e.h M3.out.h.lt) Try.underlying25 rfl HS9.out ?_
  simp only [Act.put, List.setIfInBounds_toArray, List.set_cons_zero, List.set_cons_succ]
  repeat (go_big_quiet_step (first | (with_reducible exact Calls.ext_of (HFL.out _)) | (with_reducible exact Calls.ext_of (HFI.out _))))
  refine wpQuiet_nil ?_
  rintro _ ⟨ex, rfl⟩
  obtain ⟨W4, hW4⟩ : ∃ W4, W4 = ex.v := ⟨_, rfl⟩
  have M4 := Lib.hid (show RM w W4 C N X hb A n P z from by rw [hW4]; exact M3.out.next ex.h)
  rw [← hW4]
  clear hW4 ex M3
  obtain ⟨x, hx⟩ : ∃ x, x = C i := ⟨_, rfl⟩
  have HX := Lib.hid hx
  have HRG := Lib.hid (show W4.rangeAt w.heap.size (i * 14) x.cells from fun j v hv => by
    have hj : j < 14 := by
      have := (List.getElem?_eq_some_iff.1 hv).1
      exact this
    have h1 := M4.out.r.ctx hi16 j hj (o := i * 14) (by omega)
    rw [h1, ← HX.out, ← Cx.cell_at x j hj, hv])
  have HS67 : Hid ((Try.prog.info? 67).map (·.size) = some x.cells.length) := Lib.hid size67
  have HS67b : Hid ((Try.prog.info? 67).map (·.size) = some x.cells.toArray.size) := Lib.hid size67
  have HO67 : Hid (x.cells.toArray.all (·.oneCell') = true) := Lib.hid (all_oneCell_toArray (cx_one x))
  have i0 : (0 : Int) ≤ (i : Int) := by omega
  have i1 : (i : Int) < 16 := by omega
  obtain ⟨xb, hxb⟩ : ∃ xb, xb = W4.heap.size := ⟨_, rfl⟩
  clear hx
  go_upto_region 9 with (first
    | (refine wpList_load_mid rfl 67 _ rfl w.heap.size (i * 14) rfl x.cells _ HRG.out Try.underlying67 rfl HS67.out ?_)
    | (refine wpList_store_row rfl _ _ _ rfl W4.heap.size x.cells.toArray rfl rfl 67 _ (Blk.new W4 _ _) HS67b.out rfl HO67.out ?_))
  obtain ⟨W5, hW5⟩ : ∃ W5, W5 = (W4.alloc (.cells #[.bool false, .int .i64 0, .int .i64 0, .int .i64 0, .int .i64 0, .int .i64 0, .int .i64 0, .int .i64 0, .int .i64 0, .int .i64 0, .int .i64 0, .int .i64 0, .bool false, .int .i64 0] 67)).setRow W4.heap.size x.cells.toArray := ⟨_, rfl⟩
  have X5 := Lib.hid (show Blk W5 xb 67 #[.bool x.used, .int .i64 x.h0, .int .i64 x.h1, .int .i64 x.h2, .int .i64 x.h3, .int .i64 x.h4, .int .i64 x.h5, .int .i64 x.h6, .int .i64 x.h7, .int .i64 x.h8, .int .i64 x.gen, .int .i64 x.step, .bool x.need, .int .i64 x.turn] from by rw [hW5, hxb]; exact Blk.setRow (Blk.new W4 _ _))
  have M5 := Lib.hid (show RM w W5 C N X hb A n P z from M4.out.next (by rw [hW5]; exact belowRow ((Below.refl _ W4).alloc (Nat.le_refl _) _) (Nat.le_refl _) _))
  have hxbl : hb < xb := by rw [hxb]; exact M4.out.h.lt
  have hbl : w.heap.size + 1 < hb := M4.out.lt
  rw [← hW5, ← hxb]
  clear hW5 hxb
  have t5 := M5.out.r.n_
  have f5 := M5.out.r.fr 224
  have tw : IntKind.i64.wrap (N + 1) = N + 1 := IntWalk.i64_in _ (by omega)
  go_upto_region 10 with (fail)
  obtain ⟨W6, hW6⟩ : ∃ W6, W6 = W5.setCell ⟨w.heap.size, 224, none⟩ (.int .i64 (N + 1)) := ⟨_, rfl⟩
  have X6 := Lib.hid (show Blk W6 xb 67 #[.bool x.used, .int .i64 x.h0, .int .i64 x.h1, .int .i64 x.h2, .int .i64 x.h3, .int .i64 x.h4, .int .i64 x.h5, .int .i64 x.h6, .int .i64 x.h7, .int .i64 x.h8, .int .i64 x.gen, .int .i64 x.step, .bool x.need, .int .i64 x.turn] from by rw [hW6]; exact X5.out.far (by simp; omega) _)
  have M6 := Lib.hid (show RM w W6 C (N + 1) X hb A n P z from by rw [hW6]; exact M5.out.keepr (grownBy_setCellAt _ _ _ _) (M5.out.r.setN _))
  rw [← hW6]
  clear hW6 t5 f5 tw
  go_cut [13] from 47 to 61 (fun v wx => v = .bool (sameB x X) ∧ Blk wx xb 67 #[.bool x.used, .int .i64 x.h0, .int .i64 x.h1, .int .i64 x.h2, .int .i64 x.h3, .int .i64 x.h4, .int .i64 x.h5, .int .i64 x.h6, .int .i64 x.h7, .int .i64 x.h8, .int .i64 x.gen, .int .i64 x.step, .bool x.need, .int .i64 x.turn] ∧ RM w wx C (N + 1) X hb A n P z)
  case first =>
    have y0 : ∀ e : ExtW W6, e.v.cell? ⟨hb, 0, none⟩ = some (.int .i64 (X 0)) := fun e => e.cell (M6.out.h.cell 0) M6.out.h.lt
    have y1 : ∀ e : ExtW W6, e.v.cell? ⟨hb, 1, none⟩ = some (.int .i64 (X 1)) := fun e => e.cell (M6.out.h.cell 1) M6.out.h.lt
    have y2 : ∀ e : ExtW W6, e.v.cell? ⟨hb, 2, none⟩ = some (.int .i64 (X 2)) := fun e => e.cell (M6.out.h.cell 2) M6.out.h.lt
    have y3 : ∀ e : ExtW W6, e.v.cell? ⟨hb, 3, none⟩ = some (.int .i64 (X 3)) := fun e => e.cell (M6.out.h.cell 3) M6.out.h.lt
    have y4 : ∀ e : ExtW W6, e.v.cell? ⟨hb, 4, none⟩ = some (.int .i64 (X 4)) := fun e => e.cell (M6.out.h.cell 4) M6.out.h.lt
    have y5 : ∀ e : ExtW W6, e.v.cell? ⟨hb, 5, none⟩ = some (.int .i64 (X 5)) := fun e => e.cell (M6.out.h.cell 5) M6.out.h.lt
    have y6 : ∀ e : ExtW W6, e.v.cell? ⟨hb, 6, none⟩ = some (.int .i64 (X 6)) := fun e => e.cell (M6.out.h.cell 6) M6.out.h.lt
    have y7 : ∀ e : ExtW W6, e.v.cell? ⟨hb, 7, none⟩ = some (.int .i64 (X 7)) := fun e => e.cell (M6.out.h.cell 7) M6.out.h.lt
    have y8 : ∀ e : ExtW W6, e.v.cell? ⟨hb, 8, none⟩ = some (.int .i64 (X 8)) := fun e => e.cell (M6.out.h.cell 8) M6.out.h.lt
    have x0 : ∀ e : ExtW W6, e.v.cell? ⟨xb, 0, none⟩ = some (.bool x.used) := fun e => e.cell (X6.out.cell 0) X6.out.lt
    have x1 : ∀ e : ExtW W6, e.v.cell? ⟨xb, 1, none⟩ = some (.int .i64 x.h0) := fun e => e.cell (X6.out.cell 1) X6.out.lt
    have x2 : ∀ e : ExtW W6, e.v.cell? ⟨xb, 2, none⟩ = some (.int .i64 x.h1) := fun e => e.cell (X6.out.cell 2) X6.out.lt
    have x3 : ∀ e : ExtW W6, e.v.cell? ⟨xb, 3, none⟩ = some (.int .i64 x.h2) := fun e => e.cell (X6.out.cell 3) X6.out.lt
    have x4 : ∀ e : ExtW W6, e.v.cell? ⟨xb, 4, none⟩ = some (.int .i64 x.h3) := fun e => e.cell (X6.out.cell 4) X6.out.lt
    have x5 : ∀ e : ExtW W6, e.v.cell? ⟨xb, 5, none⟩ = some (.int .i64 x.h4) := fun e => e.cell (X6.out.cell 5) X6.out.lt
    have x6 : ∀ e : ExtW W6, e.v.cell? ⟨xb, 6, none⟩ = some (.int .i64 x.h5) := fun e => e.cell (X6.out.cell 6) X6.out.lt
    have x7 : ∀ e : ExtW W6, e.v.cell? ⟨xb, 7, none⟩ = some (.int .i64 x.h6) := fun e => e.cell (X6.out.cell 7) X6.out.lt
    have x8 : ∀ e : ExtW W6, e.v.cell? ⟨xb, 8, none⟩ = some (.int .i64 x.h7) := fun e => e.cell (X6.out.cell 8) X6.out.lt
    have x9 : ∀ e : ExtW W6, e.v.cell? ⟨xb, 9, none⟩ = some (.int .i64 x.h8) := fun e => e.cell (X6.out.cell 9) X6.out.lt
    have x12 : ∀ e : ExtW W6, e.v.cell? ⟨xb, 12, none⟩ = some (.bool x.need) := fun e => e.cell (X6.out.cell 12) X6.out.lt
    have heq := flow_eql x.h0 x.h1 x.h2 x.h3 x.h4 (X 0) (X 1) (X 2) (X 3) (X 4)
    have HSB := Lib.hid (show sameB x X = (x.used && (sameFlow x.h0 x.h1 x.h2 x.h3 x.h4 (X 0) (X 1) (X 2) (X 3) (X 4) && !x.need)) from rfl)
    obtain ⟨sf, hsf⟩ : ∃ sf, sf = sameFlow x.h0 x.h1 x.h2 x.h3 x.h4 (X 0) (X 1) (X 2) (X 3) (X 4) := ⟨_, rfl⟩
    rw [← hsf] at heq HSB
    obtain ⟨u, hu⟩ : ∃ u, u = x.used := ⟨_, rfl⟩
    rw [← hu] at x0 HSB
    obtain ⟨nd, hnd⟩ : ∃ nd, nd = x.need := ⟨_, rfl⟩
    rw [← hnd] at x12 HSB
    have HU := Lib.hid hu
    have HND := Lib.hid hnd
    have HXB : Hid (∀ e : ExtW W6, Blk e.v xb 67 #[.bool x.used, .int .i64 x.h0, .int .i64 x.h1, .int .i64 x.h2, .int .i64 x.h3, .int .i64 x.h4, .int .i64 x.h5, .int .i64 x.h6, .int .i64 x.h7, .int .i64 x.h8, .int .i64 x.gen, .int .i64 x.step, .bool x.need, .int .i64 x.turn] ∧ RM w e.v C (N + 1) X hb A n P z) := Lib.hid fun e => ⟨X6.out.below e.h X6.out.lt, M6.out.next e.h⟩
    clear hsf hu hnd
    cases u
    · have HS := Lib.hid (show false = sameB x X from HSB.out.symm)
      clear HSB
      refine wp_region_ext (by kernel_rfl) (by kernel_rfl) ?_
      repeat (go_big_quiet_step (fail))
      refine wpQuiet_nil ?_
      rintro _ ⟨ex, rfl⟩
      go_wp2
      go_meet
      exact ⟨congrArg Value.bool HS.out, (HXB.out ex).1, (HXB.out ex).2⟩
    · cases sf
      · have HS := Lib.hid (show false = sameB x X from HSB.out.symm)
        clear HSB
        refine wp_region_ext (by kernel_rfl) (by kernel_rfl) ?_
        repeat (go_big_quiet_step (exact Calls.ext_of (rflow_ok _ _ _ _ _ _ _ _ _ _)))
        refine wpQuiet_nil ?_
        rintro _ ⟨ex, rfl⟩
        go_wp2
        go_meet
        exact ⟨congrArg Value.bool HS.out, (HXB.out ex).1, (HXB.out ex).2⟩
      · have HS := Lib.hid (show (!nd) = sameB x X from HSB.out.symm)
        clear HSB
        refine wp_region_ext (by kernel_rfl) (by kernel_rfl) ?_
        repeat (go_big_quiet_step (exact Calls.ext_of (rflow_ok _ _ _ _ _ _ _ _ _ _)))
        refine wpQuiet_nil ?_
        rintro _ ⟨ex, rfl⟩
        go_wp2
        go_meet
        exact ⟨congrArg Value.bool HS.out, (HXB.out ex).1, (HXB.out ex).2⟩
  case rest =>
    obtain ⟨rfl, hX7, hM7⟩ := hcut
    obtain ⟨hxo, hg1, hg2, hg3⟩ := hok i hi16
    rw [← HX.out] at hxo hg1 hg2 hg3
    have HG3 := Lib.hid hg3
    obtain ⟨_, oi, ot, _, os⟩ := hxo
    have oi' : 0 ≤ x.h6 ∧ x.h6 < 65536 := oi
    have ot' : 0 ≤ x.h7 ∧ x.h7 < 16777216 := ot
    have os' : 0 ≤ x.step ∧ x.step < 65536 := os
    obtain ⟨kn, hkn⟩ : ∃ kn, kn = (X 6 - x.h6) % 65536 := ⟨_, rfl⟩
    obtain ⟨kt, hkt⟩ : ∃ kt, kt = (X 7 - x.h7) % 16777216 := ⟨_, rfl⟩
    have wn1 : IntKind.i64.wrap (X 6 - x.h6) = X 6 - x.h6 := IntWalk.i64_in _ (by omega)
    have wn2 : IntKind.i64.wrap (X 6 - x.h6 + 65536) = X 6 - x.h6 + 65536 := IntWalk.i64_in _ (by omega)
    have wn3 : (X 6 - x.h6 + 65536).tmod 65536 = kn := by rw [Int.tmod_eq_emod_of_nonneg (by omega), hkn]; omega
    have wt1 : IntKind.i64.wrap (X 7 - x.h7) = X 7 - x.h7 := IntWalk.i64_in _ (by omega)
    have wt2 : IntKind.i64.wrap (X 7 - x.h7 + 16777216) = X 7 - x.h7 + 16777216 := IntWalk.i64_in _ (by omega)
    have wt3 : (X 7 - x.h7 + 16777216).tmod 16777216 = kt := by rw [Int.tmod_eq_emod_of_nonneg (by omega), hkt]; omega
    have n0 : 0 ≤ kn ∧ kn < 65536 := by rw [hkn]; omega
    have t0 : 0 ≤ kt ∧ kt < 16777216 := by rw [hkt]; omega
    have HKN := Lib.hid hkn
    have HKT := Lib.hid hkt
    have X7 := Lib.hid hX7
    have M7 := Lib.hid hM7
    obtain ⟨sm, hsm⟩ : ∃ sm, sm = sameB x X := ⟨_, rfl⟩
    rw [← hsm]
    have HSM := Lib.hid hsm
    have y6 : wc.cell? ⟨hb, 6, none⟩ = some (.int .i64 (X 6)) := M7.out.h.cell 6
    have y7 : wc.cell? ⟨hb, 7, none⟩ = some (.int .i64 (X 7)) := M7.out.h.cell 7
    have x7 : wc.cell? ⟨xb, 7, none⟩ = some (.int .i64 x.h6) := X7.out.cell 7
    have x8 : wc.cell? ⟨xb, 8, none⟩ = some (.int .i64 x.h7) := X7.out.cell 8
    have x13 : wc.cell? ⟨xb, 13, none⟩ = some (.int .i64 x.turn) := X7.out.cell 13
    have f13 := X7.out.frozen 13
    have r7 := M7.out.r.n_
    clear hg3 hkn hkt hX7 hM7 hsm oi ot os oi' ot'
    go_upto_block 0 with (fail)
    obtain ⟨W8, hW8⟩ : ∃ W8, W8 = wc.setCell ⟨xb, 13, none⟩ (.int .i64 (N + 1)) := ⟨_, rfl⟩
    have X8 := Lib.hid (show Blk W8 xb 67 #[.bool x.used, .int .i64 x.h0, .int .i64 x.h1, .int .i64 x.h2, .int .i64 x.h3, .int .i64 x.h4, .int .i64 x.h5, .int .i64 x.h6, .int .i64 x.h7, .int .i64 x.h8, .int .i64 x.gen, .int .i64 x.step, .bool x.need, .int .i64 (N + 1)] from by rw [hW8]; exact X7.out.set_ 13 _)
    have M8 := Lib.hid (show RM w W8 C (N + 1) X hb A n P z from by rw [hW8]; exact M7.out.keepx (grownBy_setCellAt _ _ _ _) hxbl)
    rw [← hW8]
    have e0 : crx C (cPlace (crx C) X) = x.rx := by rw [← HI.out, HX.out]; rfl
    have HTU := Lib.hid (show cTurned (crx C) N X = { x.rx with turn := N + 1 } from by unfold cTurned; rw [e0])
    have HKD := Lib.hid (show cKind (crx C) N X = if sm = true ∧ 1 ≤ kn ∧ kn ≤ 255 then (if X 5 = x.h5 ∧ kt = x.step * kn % 16777216 then 2 else if kt < 65536 then 1 else 0) else 0 from by unfold cKind; rw [HTU.out, HSM.out]; exact rkind x X (N + 1) kn kt HKN.out HKT.out)
    have HC := Lib.hid (show C (cPlace (crx C) X) = x from by rw [← HI.out, HX.out])
    have hne1 : ¬ hb = xb := by omega
    have hne2 : ¬ xb = hb := by omega
    clear hW8 e0 wn1 wn2 wn3 wt1 wt2 wt3 y6 y7 x7 x8 x13 f13 r7
    go_cut [16] from 81 to 181 (fun v wx => RCut w C N X hb xb A n P z v wx)
    case first =>
      go_upto_region 18 with (fail)
      have y5 : W8.cell? ⟨hb, 5, none⟩ = some (.int .i64 (X 5)) := M8.out.h.cell 5
      have x6 : W8.cell? ⟨xb, 6, none⟩ = some (.int .i64 x.h5) := X8.out.cell 6
      have x11 : W8.cell? ⟨xb, 11, none⟩ = some (.int .i64 x.step) := X8.out.cell 11
      obtain ⟨kd, hkd⟩ : ∃ kd, kd = cKind (crx C) N X := ⟨_, rfl⟩
      rw [← hkd] at HKD
      go_cut [101] from 102 to 127 (fun v wx => v = .bool (decide (kd = 2)) ∧ W8 = wx)
      case first =>
        have p0 : 0 ≤ x.step * kn := Int.mul_nonneg os'.1 n0.1
        have p1 : x.step * kn ≤ 65536 * 65536 := Int.mul_le_mul (by omega) (by omega) n0.1 (by decide)
        obtain ⟨pp, hpp⟩ : ∃ pp, pp = x.step * kn := ⟨_, rfl⟩
        have kw : IntKind.i64.wrap (x.step * kn) = pp := by rw [hpp]; exact IntWalk.i64_in _ (by omega)
        rw [← hpp] at HKD p0 p1
        obtain ⟨n1, n2⟩ := n0
        have HPP := Lib.hid hpp
        clear hpp
        cases sm
        · have HK := Lib.hid (show kd = 0 from by rw [HKD.out, if_neg (by simp)])
          go_wp2
          go_meet
          exact ⟨congrArg Value.bool (by rw [HK.out]; rfl), rfl⟩
        by_cases hn1 : kn < 1
        · have HK := Lib.hid (show kd = 0 from by rw [HKD.out, if_neg (by omega)])
          go_wp2
          go_meet
          exact ⟨congrArg Value.bool (by rw [HK.out]; rfl), rfl⟩
        by_cases hn2 : 255 < kn
        · have HK := Lib.hid (show kd = 0 from by rw [HKD.out, if_neg (by omega)])
          go_wp2
          go_meet
          exact ⟨congrArg Value.bool (by rw [HK.out]; rfl), rfl⟩
        have HK0 := Lib.hid (show kd = (if X 5 = x.h5 ∧ kt = pp % 16777216 then 2 else if kt < 65536 then 1 else 0) from by rw [HKD.out, if_pos ⟨rfl, by omega, by omega⟩])
        by_cases hh : X 5 = x.h5
        · have hh1 : (X 5 == x.h5) = true := by simpa using hh
          by_cases htt : kt = pp % 16777216
          · have ht1 : (kt == pp % 16777216) = true := by simpa using htt
            have HK := Lib.hid (show kd = 2 from by rw [HK0.out, if_pos ⟨hh, htt⟩])
            clear hh htt
            go_wp2
            go_meet
            exact ⟨congrArg Value.bool (by rw [HK.out]; rfl), rfl⟩
          · have ht1 : (kt == pp % 16777216) = false := by simpa using htt
            have HK := Lib.hid (show ¬ kd = 2 from by rw [HK0.out, if_neg (fun h => htt h.2)]; split <;> decide)
            clear hh
            go_wp2
            go_meet
            exact ⟨congrArg Value.bool (by simpa using HK.out), rfl⟩
        · have hh1 : (X 5 == x.h5) = false := by simpa using hh
          have HK := Lib.hid (show ¬ kd = 2 from by rw [HK0.out, if_neg (fun h => hh h.1)]; split <;> decide)
          go_wp2
          go_meet
          exact ⟨congrArg Value.bool (by simpa using HK.out), rfl⟩
      case rest =>
        obtain ⟨rfl, rfl⟩ := hcut
        have HKE := Lib.hid hkd
        clear hkd
        by_cases hk2 : kd = 2
        · have hb2 : decide (kd = 2) = true := by simpa using hk2
          rw [hb2]
          have hrange : sm = true ∧ 1 ≤ kn ∧ kn ≤ 255 := by
            by_cases hh : sm = true ∧ 1 ≤ kn ∧ kn ≤ 255
            · exact hh
            · have := HKD.out; rw [if_neg hh] at this; omega
          obtain ⟨hsm1, n1, n2⟩ := hrange
          have hused : x.used = true := by
            have := HSM.out
            rw [hsm1] at this
            unfold sameB at this
            simp only [Bool.true_eq, Bool.and_eq_true] at this
            exact this.1
          have hge := HG3.out hused
          have x10 : W8.cell? ⟨xb, 10, none⟩ = some (.int .i64 x.gen) := X8.out.cell 10
          have v1 : IntKind.u8.wrap (128 + 4 * (i : Int)) = 128 + 4 * (i : Int) := by rw [IntKind.wrap_u8]; omega
          have v2 : IntKind.u8.wrap x.gen = x.gen := by rw [IntKind.wrap_u8]; omega
          have v3 : IntKind.u8.wrap kn = kn := by rw [IntKind.wrap_u8]; omega
          have HSM1 := Lib.hid hsm1
          have HUS := Lib.hid hused
          have HK2 := Lib.hid hk2
          clear hsm1 hused hk2 hb2
          go_wp2
          go_meet
          have hq : cKind (crx C) N X = 2 := HKE.out.symm.trans HK2.out
          have hT : (cTurned (crx C) N X).gen = x.gen := by rw [HTU.out]; show (if 0 ≤ x.gen then x.gen else 0) = x.gen; rw [if_pos hge]
          have hkN : kN (cTurned (crx C) N X) (X 6) = kn := by rw [HTU.out, HKN.out]; rfl
          refine RCut.of [128 + 4 * (i : Int), x.gen, kn] W8.heap.size 3 3 rfl (by unfold cLen; rw [hq]; rfl) ?_ (World.ownsRow_lit (base := xb + 1) W8 #[.int .u8 (128 + 4 * (i : Int)), .int .u8 x.gen, .int .u8 kn] 3 X8.out.lt (by decide) rfl) ?_ (M8.out.next ((Below.refl _ W8).alloc (Nat.le_refl _) _))
          · intro j hj
            have hj3 : j < 3 := hj
            unfold joinY cFirst cHead
            rw [hq, hT, hkN, ← HI.out]
            match j, hj3 with
            | 0, _ => show (128 : Int) + 4 * (i : Int) = 64 * 2 + 4 * (i : Int); omega
            | 1, _ => rfl
            | 2, _ => rfl
          · have hR : rNew C N X = { x with turn := N + 1 } := by unfold rNew; rw [hq, HC.out]; rfl
            rw [hR]
            exact X8.out.alloc _
        have hb2 : decide (kd = 2) = false := by simpa using hk2
        rw [hb2]
        go_upto_region 20 with (fail)
        go_cut [138] from 139 to 151 (fun v wx => v = .bool (decide (kd = 1)) ∧ W8 = wx)
        case first =>
          clear hb2
          obtain ⟨n1, n2⟩ := n0
          cases sm
          · have HK := Lib.hid (show kd = 0 from by rw [HKD.out, if_neg (by simp)])
            go_wp2
            go_meet
            exact ⟨congrArg Value.bool (by rw [HK.out]; rfl), rfl⟩
          by_cases hn1 : kn < 1
          · have HK := Lib.hid (show kd = 0 from by rw [HKD.out, if_neg (by omega)])
            go_wp2
            go_meet
            exact ⟨congrArg Value.bool (by rw [HK.out]; rfl), rfl⟩
          by_cases hn2 : 255 < kn
          · have HK := Lib.hid (show kd = 0 from by rw [HKD.out, if_neg (by omega)])
            go_wp2
            go_meet
            exact ⟨congrArg Value.bool (by rw [HK.out]; rfl), rfl⟩
          have HK0 := Lib.hid (show kd = (if X 5 = x.h5 ∧ kt = x.step * kn % 16777216 then 2 else if kt < 65536 then 1 else 0) from by rw [HKD.out, if_pos ⟨rfl, by omega, by omega⟩])
          have HK2 := Lib.hid (show ¬ (X 5 = x.h5 ∧ kt = x.step * kn % 16777216) from fun h => hk2 (by rw [HK0.out, if_pos h]))
          by_cases h16 : kt < 65536
          · have HK := Lib.hid (show kd = 1 from by rw [HK0.out, if_neg HK2.out, if_pos h16])
            clear hk2
            go_wp2
            go_meet
            exact ⟨congrArg Value.bool (by rw [HK.out]; rfl), rfl⟩
          · have HK := Lib.hid (show kd = 0 from by rw [HK0.out, if_neg HK2.out, if_neg h16])
            clear hk2
            go_wp2
            go_meet
            exact ⟨congrArg Value.bool (by rw [HK.out]; rfl), rfl⟩
        case rest =>
          obtain ⟨rfl, rfl⟩ := hcut
          by_cases hk1 : kd = 1
          · have hb1 : decide (kd = 1) = true := by simpa using hk1
            rw [hb1]
            have hrange : sm = true ∧ 1 ≤ kn ∧ kn ≤ 255 := by
              by_cases hh : sm = true ∧ 1 ≤ kn ∧ kn ≤ 255
              · exact hh
              · have := HKD.out; rw [if_neg hh] at this; omega
            obtain ⟨hsm1, n1, n2⟩ := hrange
            have ht16 : kt < 65536 := by
              have := HKD.out
              rw [if_pos ⟨hsm1, n1, n2⟩] at this
              split at this
              · omega
              · split at this
                · assumption
                · omega
            have hused : x.used = true := by
              have := HSM.out
              rw [hsm1] at this
              unfold sameB at this
              simp only [Bool.true_eq, Bool.and_eq_true] at this
              exact this.1
            have hge := HG3.out hused
            obtain ⟨t1, t2⟩ := t0
            obtain ⟨gp, hgp⟩ : ∃ gp, gp = (x.gen + 1) % 256 := ⟨_, rfl⟩
            have g0 : 0 ≤ gp ∧ gp < 256 := by rw [hgp]; omega
            have g1 : IntKind.i64.wrap (x.gen + 1) = x.gen + 1 := IntWalk.i64_in _ (by omega)
            have g2 : (x.gen + 1).tmod 256 = gp := by rw [Int.tmod_eq_emod_of_nonneg (by omega), hgp]
            have HGP := Lib.hid hgp
            have HSM1 := Lib.hid hsm1
            have HUS := Lib.hid hused
            have HK1 := Lib.hid hk1
            have x10 : W8.cell? ⟨xb, 10, none⟩ = some (.int .i64 x.gen) := X8.out.cell 10
            have f10 := X8.out.frozen 10
            clear hgp hsm1 hused hk1 hb1
            go_upto_region 22 with (fail)
            obtain ⟨W9, hW9⟩ : ∃ W9, W9 = W8.setCell ⟨xb, 10, none⟩ (.int .i64 gp) := ⟨_, rfl⟩
            have X9 := Lib.hid (show Blk W9 xb 67 #[.bool x.used, .int .i64 x.h0, .int .i64 x.h1, .int .i64 x.h2, .int .i64 x.h3, .int .i64 x.h4, .int .i64 x.h5, .int .i64 x.h6, .int .i64 x.h7, .int .i64 x.h8, .int .i64 gp, .int .i64 x.step, .bool x.need, .int .i64 (N + 1)] from by rw [hW9]; exact X8.out.set_ 10 _)
            have M9 := Lib.hid (show RM w W9 C (N + 1) X hb A n P z from by rw [hW9]; exact M8.out.keepx (grownBy_setCellAt _ _ _ _) hxbl)
            rw [← hW9]
            clear hW9 x10 f10 g1 g2 y5 x6 x11
            obtain ⟨q, hq⟩ : ∃ q, q = kt / kn := ⟨_, rfl⟩
            have kq : kt.tdiv kn = q := by rw [hq]; exact Int.tdiv_eq_ediv_of_nonneg t1
            have kq0 : 0 ≤ q := by rw [hq]; exact Int.ediv_nonneg t1 (by omega)
            have kq1 : q ≤ kt := by rw [hq]; exact Int.ediv_le_self _ t1
            have kq2 : IntKind.i64.wrap q = q := IntWalk.i64_in _ (by omega)
            have kq3 : (kn == 0) = false := by simp; omega
            have kq4 : ¬ kn = 0 := by omega
            have HQ := Lib.hid hq
            clear hq
            have y0 : W9.cell? ⟨hb, 0, none⟩ = some (.int .i64 (X 0)) := M9.out.h.cell 0
            have y1 : W9.cell? ⟨hb, 1, none⟩ = some (.int .i64 (X 1)) := M9.out.h.cell 1
            have y2 : W9.cell? ⟨hb, 2, none⟩ = some (.int .i64 (X 2)) := M9.out.h.cell 2
            have y3 : W9.cell? ⟨hb, 3, none⟩ = some (.int .i64 (X 3)) := M9.out.h.cell 3
            have y4 : W9.cell? ⟨hb, 4, none⟩ = some (.int .i64 (X 4)) := M9.out.h.cell 4
            have y5 : W9.cell? ⟨hb, 5, none⟩ = some (.int .i64 (X 5)) := M9.out.h.cell 5
            have y6 : W9.cell? ⟨hb, 6, none⟩ = some (.int .i64 (X 6)) := M9.out.h.cell 6
            have y7 : W9.cell? ⟨hb, 7, none⟩ = some (.int .i64 (X 7)) := M9.out.h.cell 7
            have y8 : W9.cell? ⟨hb, 8, none⟩ = some (.int .i64 (X 8)) := M9.out.h.cell 8
            have x1 : W9.cell? ⟨xb, 1, none⟩ = some (.int .i64 x.h0) := X9.out.cell 1
            have f1 := X9.out.frozen 1
            have x2 : W9.cell? ⟨xb, 2, none⟩ = some (.int .i64 x.h1) := X9.out.cell 2
            have f2 := X9.out.frozen 2
            have x3 : W9.cell? ⟨xb, 3, none⟩ = some (.int .i64 x.h2) := X9.out.cell 3
            have f3 := X9.out.frozen 3
            have x4 : W9.cell? ⟨xb, 4, none⟩ = some (.int .i64 x.h3) := X9.out.cell 4
            have f4 := X9.out.frozen 4
            have x5 : W9.cell? ⟨xb, 5, none⟩ = some (.int .i64 x.h4) := X9.out.cell 5
            have f5 := X9.out.frozen 5
            have x6 : W9.cell? ⟨xb, 6, none⟩ = some (.int .i64 x.h5) := X9.out.cell 6
            have f6 := X9.out.frozen 6
            have x7 : W9.cell? ⟨xb, 7, none⟩ = some (.int .i64 x.h6) := X9.out.cell 7
            have f7 := X9.out.frozen 7
            have x8 : W9.cell? ⟨xb, 8, none⟩ = some (.int .i64 x.h7) := X9.out.cell 8
            have f8 := X9.out.frozen 8
            have x9 : W9.cell? ⟨xb, 9, none⟩ = some (.int .i64 x.h8) := X9.out.cell 9
            have f9 := X9.out.frozen 9
            have x11 : W9.cell? ⟨xb, 11, none⟩ = some (.int .i64 x.step) := X9.out.cell 11
            have f11 := X9.out.frozen 11
            go_region_held3 (fun w' => w'.cell? ⟨hb, 0, none⟩ = some (.int .i64 (X 0)) ∧ w'.cell? ⟨hb, 1, none⟩ = some (.int .i64 (X 1)) ∧ w'.cell? ⟨hb, 2, none⟩ = some (.int .i64 (X 2)) ∧ w'.cell? ⟨hb, 3, none⟩ = some (.int .i64 (X 3)) ∧ w'.cell? ⟨hb, 4, none⟩ = some (.int .i64 (X 4)) ∧ w'.cell? ⟨hb, 5, none⟩ = some (.int .i64 (X 5)) ∧ w'.cell? ⟨hb, 6, none⟩ = some (.int .i64 (X 6)) ∧ w'.cell? ⟨hb, 7, none⟩ = some (.int .i64 (X 7)) ∧ w'.cell? ⟨hb, 8, none⟩ = some (.int .i64 (X 8))) (go_keep) ((fail))
            go_upto_region 23 with (fail)
            obtain ⟨W10, hW10⟩ : ∃ W10, W10 = ((((((((((W9.setCell ⟨xb, 1, none⟩ (.int .i64 (X 0))).setCell ⟨xb, 2, none⟩ (.int .i64 (X 1))).setCell ⟨xb, 3, none⟩ (.int .i64 (X 2))).setCell ⟨xb, 4, none⟩ (.int .i64 (X 3))).setCell ⟨xb, 5, none⟩ (.int .i64 (X 4))).setCell ⟨xb, 6, none⟩ (.int .i64 (X 5))).setCell ⟨xb, 7, none⟩ (.int .i64 (X 6))).setCell ⟨xb, 8, none⟩ (.int .i64 (X 7))).setCell ⟨xb, 9, none⟩ (.int .i64 (X 8))).setCell ⟨xb, 11, none⟩ (.int .i64 q)).drew := ⟨_, rfl⟩
            have X10 := Lib.hid (show Blk W10 xb 67 #[.bool x.used, .int .i64 (X 0), .int .i64 (X 1), .int .i64 (X 2), .int .i64 (X 3), .int .i64 (X 4), .int .i64 (X 5), .int .i64 (X 6), .int .i64 (X 7), .int .i64 (X 8), .int .i64 gp, .int .i64 q, .bool x.need, .int .i64 (N + 1)] from by rw [hW10]; exact Blk.drew (set_delta W9 xb 67 _ _ _ _ _ _ _ _ _ _ _ _ _ _ _ _ _ _ _ _ _ _ _ _ X9.out))
            have M10 := Lib.hid (show RM w W10 C (N + 1) X hb A n P z from by rw [hW10]; exact M9.out.keepx (grownBy_drew (grownBy_set (grownBy_set (grownBy_set (grownBy_set (grownBy_set (grownBy_set (grownBy_set (grownBy_set (grownBy_set (grownBy_set (World.grownBy_refl W9 _) _ _) _ _) _ _) _ _) _ _) _ _) _ _) _ _) _ _) _ _)) hxbl)
            rw [← hW10]
            clear hW10 kq kq2 kq3 y0 y1 y2 y3 y4 y5 y6 y7 y8 x1 f1 x2 f2 x3 f3 x4 f4 x5 f5 x6 f6 x7 f7 x8 f8 x9 f9 x11 f11
            have y5 : W10.cell? ⟨hb, 5, none⟩ = some (.int .i64 (X 5)) := M10.out.h.cell 5
            have x10 : W10.cell? ⟨xb, 10, none⟩ = some (.int .i64 gp) := X10.out.cell 10
            have v1 : IntKind.u8.wrap (64 + 4 * (i : Int)) = 64 + 4 * (i : Int) := by rw [IntKind.wrap_u8]; omega
            have v2 : IntKind.u8.wrap gp = gp := by rw [IntKind.wrap_u8]; omega
            have v3 : IntKind.u8.wrap kn = kn := by rw [IntKind.wrap_u8]; omega
            have v4 : IntKind.u8.wrap (kt / 256) = kt / 256 := by rw [IntKind.wrap_u8]; omega
            have v5 : IntKind.u8.wrap (kt % 256) = kt % 256 := by rw [IntKind.wrap_u8]; omega
            have v6 : IntKind.u8.wrap (X 5) = X 5 := by rw [IntKind.wrap_u8]; omega
            go_wp2
            go_meet
            have hq : cKind (crx C) N X = 1 := HKE.out.symm.trans HK1.out
            have hne1 : ¬ cKind (crx C) N X = 0 := by rw [hq]; decide
            have hkN : kN (cTurned (crx C) N X) (X 6) = kn := by rw [HTU.out, HKN.out]; rfl
            have hkT : kT (cTurned (crx C) N X) (X 7) = kt := by rw [HTU.out, HKT.out]; rfl
            have hge := HG3.out HUS.out
            have hT : (cNew (crx C) N X).gen = gp := by
              unfold cNew
              rw [if_neg hne1, if_pos hq, HTU.out]
              show (if decide (0 ≤ x.gen) = true then ((if 0 ≤ x.gen then x.gen else 0) + 1) % 256 else _) = gp
              rw [if_pos (by simpa using hge), if_pos hge, HGP.out]
            refine RCut.of [64 + 4 * (i : Int), gp, kn, kt / 256, kt % 256, X 5] W10.heap.size 6 6 rfl (by unfold cLen; rw [hq]; rfl) ?_ (World.ownsRow_lit (base := xb + 1) W10 #[.int .u8 (64 + 4 * (i : Int)), .int .u8 gp, .int .u8 kn, .int .u8 (kt / 256), .int .u8 (kt % 256), .int .u8 (X 5)] 6 X10.out.lt (by decide) rfl) ?_ (M10.out.next ((Below.refl _ W10).alloc (Nat.le_refl _) _))
            · intro j hj
              have hj6 : j < 6 := hj
              unfold joinY cFirst cHead
              rw [if_neg hne1, if_pos hq, hq, hT, hkN, hkT, ← HI.out]
              match j, hj6 with
              | 0, _ => show (64 : Int) + 4 * (i : Int) = 64 * 1 + 4 * (i : Int); omega
              | 1, _ => rfl
              | 2, _ => rfl
              | 3, _ => rfl
              | 4, _ => rfl
              | 5, _ => rfl
            · have hR : rNew C N X = ⟨x.used, X 0, X 1, X 2, X 3, X 4, X 5, X 6, X 7, X 8, gp, q, x.need, N + 1⟩ := by
                unfold rNew
                rw [HC.out]
                dsimp only
                rw [if_neg hne1, if_pos hq, hkT, hkN, ← HGP.out, ← HQ.out]
              rw [hR]
              exact X10.out.alloc _
          have hb1 : decide (kd = 1) = false := by simpa using hk1
          rw [hb1]
          have hk0 : kd = 0 := by
            have := HKD.out
            split at this
            · split at this
              · exact absurd this hk2
              · split at this
                · exact absurd this hk1
                · exact this
            · exact this
          obtain ⟨gp, hgp⟩ : ∃ gp, gp = (x.gen + 1) % 256 := ⟨_, rfl⟩
          have g0 : 0 ≤ gp ∧ gp < 256 := by rw [hgp]; omega
          have g1 : IntKind.i64.wrap (x.gen + 1) = x.gen + 1 := IntWalk.i64_in _ (by omega)
          have g2 : (x.gen + 1).tmod 256 = gp := by rw [Int.tmod_eq_emod_of_nonneg (by omega), hgp]
          have HGP := Lib.hid hgp
          have HK0 := Lib.hid hk0
          have x10 : W8.cell? ⟨xb, 10, none⟩ = some (.int .i64 x.gen) := X8.out.cell 10
          have f10 := X8.out.frozen 10
          clear hgp hk0 hk1 hk2 hb1 hb2
          go_upto_region 16 with (fail)
          obtain ⟨W9, hW9⟩ : ∃ W9, W9 = W8.setCell ⟨xb, 10, none⟩ (.int .i64 gp) := ⟨_, rfl⟩
          have X9 := Lib.hid (show Blk W9 xb 67 #[.bool x.used, .int .i64 x.h0, .int .i64 x.h1, .int .i64 x.h2, .int .i64 x.h3, .int .i64 x.h4, .int .i64 x.h5, .int .i64 x.h6, .int .i64 x.h7, .int .i64 x.h8, .int .i64 gp, .int .i64 x.step, .bool x.need, .int .i64 (N + 1)] from by rw [hW9]; exact X8.out.set_ 10 _)
          have M9 := Lib.hid (show RM w W9 C (N + 1) X hb A n P z from by rw [hW9]; exact M8.out.keepx (grownBy_setCellAt _ _ _ _) hxbl)
          rw [← hW9]
          clear hW9 x10 f10 g1 g2 y5 x6 x11
          have y0 : W9.cell? ⟨hb, 0, none⟩ = some (.int .i64 (X 0)) := M9.out.h.cell 0
          have y1 : W9.cell? ⟨hb, 1, none⟩ = some (.int .i64 (X 1)) := M9.out.h.cell 1
          have y2 : W9.cell? ⟨hb, 2, none⟩ = some (.int .i64 (X 2)) := M9.out.h.cell 2
          have y3 : W9.cell? ⟨hb, 3, none⟩ = some (.int .i64 (X 3)) := M9.out.h.cell 3
          have y4 : W9.cell? ⟨hb, 4, none⟩ = some (.int .i64 (X 4)) := M9.out.h.cell 4
          have y5 : W9.cell? ⟨hb, 5, none⟩ = some (.int .i64 (X 5)) := M9.out.h.cell 5
          have y6 : W9.cell? ⟨hb, 6, none⟩ = some (.int .i64 (X 6)) := M9.out.h.cell 6
          have y7 : W9.cell? ⟨hb, 7, none⟩ = some (.int .i64 (X 7)) := M9.out.h.cell 7
          have y8 : W9.cell? ⟨hb, 8, none⟩ = some (.int .i64 (X 8)) := M9.out.h.cell 8
          have x0 : W9.cell? ⟨xb, 0, none⟩ = some (.bool x.used) := X9.out.cell 0
          have f0 := X9.out.frozen 0
          have x1 : W9.cell? ⟨xb, 1, none⟩ = some (.int .i64 x.h0) := X9.out.cell 1
          have f1 := X9.out.frozen 1
          have x2 : W9.cell? ⟨xb, 2, none⟩ = some (.int .i64 x.h1) := X9.out.cell 2
          have f2 := X9.out.frozen 2
          have x3 : W9.cell? ⟨xb, 3, none⟩ = some (.int .i64 x.h2) := X9.out.cell 3
          have f3 := X9.out.frozen 3
          have x4 : W9.cell? ⟨xb, 4, none⟩ = some (.int .i64 x.h3) := X9.out.cell 4
          have f4 := X9.out.frozen 4
          have x5 : W9.cell? ⟨xb, 5, none⟩ = some (.int .i64 x.h4) := X9.out.cell 5
          have f5 := X9.out.frozen 5
          have x6 : W9.cell? ⟨xb, 6, none⟩ = some (.int .i64 x.h5) := X9.out.cell 6
          have f6 := X9.out.frozen 6
          have x7 : W9.cell? ⟨xb, 7, none⟩ = some (.int .i64 x.h6) := X9.out.cell 7
          have f7 := X9.out.frozen 7
          have x8 : W9.cell? ⟨xb, 8, none⟩ = some (.int .i64 x.h7) := X9.out.cell 8
          have f8 := X9.out.frozen 8
          have x9 : W9.cell? ⟨xb, 9, none⟩ = some (.int .i64 x.h8) := X9.out.cell 9
          have f9 := X9.out.frozen 9
          have x11 : W9.cell? ⟨xb, 11, none⟩ = some (.int .i64 x.step) := X9.out.cell 11
          have f11 := X9.out.frozen 11
          have x12 : W9.cell? ⟨xb, 12, none⟩ = some (.bool x.need) := X9.out.cell 12
          have f12 := X9.out.frozen 12
          go_region_held3 (fun w' => w'.cell? ⟨hb, 0, none⟩ = some (.int .i64 (X 0)) ∧ w'.cell? ⟨hb, 1, none⟩ = some (.int .i64 (X 1)) ∧ w'.cell? ⟨hb, 2, none⟩ = some (.int .i64 (X 2)) ∧ w'.cell? ⟨hb, 3, none⟩ = some (.int .i64 (X 3)) ∧ w'.cell? ⟨hb, 4, none⟩ = some (.int .i64 (X 4)) ∧ w'.cell? ⟨hb, 5, none⟩ = some (.int .i64 (X 5)) ∧ w'.cell? ⟨hb, 6, none⟩ = some (.int .i64 (X 6)) ∧ w'.cell? ⟨hb, 7, none⟩ = some (.int .i64 (X 7)) ∧ w'.cell? ⟨hb, 8, none⟩ = some (.int .i64 (X 8))) (go_keep) ((fail))
          go_upto_region 17 with (fail)
          obtain ⟨W10, hW10⟩ : ∃ W10, W10 = ((((((((((((W9.setCell ⟨xb, 0, none⟩ (.bool true)).setCell ⟨xb, 1, none⟩ (.int .i64 (X 0))).setCell ⟨xb, 2, none⟩ (.int .i64 (X 1))).setCell ⟨xb, 3, none⟩ (.int .i64 (X 2))).setCell ⟨xb, 4, none⟩ (.int .i64 (X 3))).setCell ⟨xb, 5, none⟩ (.int .i64 (X 4))).setCell ⟨xb, 6, none⟩ (.int .i64 (X 5))).setCell ⟨xb, 7, none⟩ (.int .i64 (X 6))).setCell ⟨xb, 8, none⟩ (.int .i64 (X 7))).setCell ⟨xb, 9, none⟩ (.int .i64 (X 8))).setCell ⟨xb, 11, none⟩ (.int .i64 0)).setCell ⟨xb, 12, none⟩ (.bool false)).drew := ⟨_, rfl⟩
          have X10 := Lib.hid (show Blk W10 xb 67 #[.bool true, .int .i64 (X 0), .int .i64 (X 1), .int .i64 (X 2), .int .i64 (X 3), .int .i64 (X 4), .int .i64 (X 5), .int .i64 (X 6), .int .i64 (X 7), .int .i64 (X 8), .int .i64 gp, .int .i64 0, .bool false, .int .i64 (N + 1)] from by rw [hW10]; exact Blk.drew (set_full W9 xb 67 _ _ _ _ _ _ _ _ _ _ _ _ _ _ _ _ _ _ _ _ _ _ _ _ _ _ X9.out))
          have M10 := Lib.hid (show RM w W10 C (N + 1) X hb A n P z from by rw [hW10]; exact M9.out.keepx (grownBy_drew (grownBy_set (grownBy_set (grownBy_set (grownBy_set (grownBy_set (grownBy_set (grownBy_set (grownBy_set (grownBy_set (grownBy_set (grownBy_set (grownBy_set (World.grownBy_refl W9 _) _ _) _ _) _ _) _ _) _ _) _ _) _ _) _ _) _ _) _ _) _ _) _ _)) hxbl)
          rw [← hW10]
          clear hW10 y0 y1 y2 y3 y4 y5 y6 y7 y8 x0 f0 x1 f1 x2 f2 x3 f3 x4 f4 x5 f5 x6 f6 x7 f7 x8 f8 x9 f9 x11 f11 x12 f12
          obtain ⟨lb, lo, hA, _, _⟩ := HR.out (by omega)
          subst hA
          have hsl := slice18b lb lo n c (by omega)
          have w4 : IntKind.i64.wrap (4 * (i : Int)) = 4 * (i : Int) := IntWalk.i64_in _ (by omega)
          have v1 : IntKind.u8.wrap (4 * (i : Int)) = 4 * (i : Int) := by rw [IntKind.wrap_u8]; omega
          have v2 : IntKind.u8.wrap gp = gp := by rw [IntKind.wrap_u8]; omega
          have x10 : W10.cell? ⟨xb, 10, none⟩ = some (.int .i64 gp) := X10.out.cell 10
          obtain ⟨j0, hj0, hz1, hz2, hz3⟩ := info_parts Try.infoByte
          have RA18 := Lib.hid (M10.out.ra.take (m := 18) (by omega))
          have hXW := X10.out.lt
          have hwW := M10.out.b.size
          go_region_held3 (fun w' => w'.cell? ⟨xb, 10, none⟩ = some (.int .i64 gp)) (go_keep) ((refine step_append_src (by rfl) _ _ 22 (by rfl) (xb + 1) 5 j0 (.int .u8 0) 1 Try.underlying22 hj0 hz1 hz2 hz3 rfl _ 2 [.int .u8 (4 * (i : Int)), .int .u8 gp] (by rfl) (World.ownsRow_lit (base := xb + 1) (e := 5) (size := 1) W10 #[.int .u8 (4 * (i : Int)), .int .u8 gp] 2 hXW (by decide) rfl).drew w.heap.size (some ⟨lb, lo, none⟩) 18 c (fun j => .int .u8 (z j)) (by rfl) (RA18.out.alloc hwW _).drew (fun _ => rfl) (by decide) (by decide) (by simp; omega) ?_; intro v6 w6 hown6 hg6 _; have B6 := Lib.hid (show Below W10.heap.size W10 w6 from (((Below.refl _ W10).alloc (Nat.le_refl _) _).drew).grown hg6 (by simp) (fun k e => by simp [Value.ownBlock] at e; omega)); have X6 := Lib.hid (X10.out.below B6.out hXW); have p10 : w6.cell? ⟨xb, 10, none⟩ = some (.int .i64 gp) := X6.out.cell 10; have HO6 := Lib.hid hown6; clear hown6 hg6))
          go_wp2
          go_meet
          obtain ⟨g6, c6, hv6, _, _⟩ := own_form HO6.out (by decide)
          subst hv6
          have hq : cKind (crx C) N X = 0 := HKE.out.symm.trans HK0.out
          have hgen : (cNew (crx C) N X).gen = gp := by
            unfold cNew
            rw [if_pos hq, HTU.out]
            show (if decide (0 ≤ x.gen) = true then ((if 0 ≤ x.gen then x.gen else 0) + 1) % 256 else (if 0 ≤ x.gen then x.gen else 0)) = gp
            by_cases hge : 0 ≤ x.gen
            · rw [if_pos (by simpa using hge), if_pos hge, HGP.out]
            · rw [if_neg (by simpa using hge), if_neg hge, HGP.out]
              have : x.gen = -1 := by omega
              rw [this]; rfl
          refine RCut.of ([4 * (i : Int), gp] ++ (List.range 18).map z) g6 c6 20 (by simp) (by unfold cLen; rw [hq]; simp) ?_ (by have := HO6.out; rw [List.map_append, List.map_map]; exact this) ?_ (M10.out.next B6.out)
          · intro j hj
            have hj20 : j < 20 := by simpa using hj
            unfold joinY cFirst cHead
            rw [hq, hgen, ← HI.out]
            match j, hj20 with
            | 0, _ => show 4 * (i : Int) = 64 * 0 + 4 * (i : Int); omega
            | 1, _ => rfl
            | j + 2, h => show ((List.range 18).map z).getD j 0 = z j; simp [List.getD, show j < 18 by omega]
          · have hR : rNew C N X = ⟨true, X 0, X 1, X 2, X 3, X 4, X 5, X 6, X 7, X 8, gp, 0, false, N + 1⟩ := by
              unfold rNew
              rw [HC.out]
              dsimp only
              rw [if_pos hq, ← HGP.out]
            rw [hR]
            exact X6.out
    case rest =>
      obtain ⟨q, cq, rfl, hown, hXc, hMc⟩ := hcut
      obtain ⟨cN, hcN⟩ : ∃ cN, cN = rNew C N X := ⟨_, rfl⟩
      obtain ⟨ln, hln⟩ : ∃ ln, ln = cLen (crx C) N X := ⟨_, rfl⟩
      have hl19 : ln ≤ 19 := by rw [hln]; exact cLen_le _ _ _
      rw [← hcN] at hXc
      have XC := Lib.hid hXc
      have MC := Lib.hid hMc
      have OC := Lib.hid hown
      have HCN := Lib.hid hcN
      have HLN := Lib.hid hln
      rw [← hln] at OC ⊢
      have HS67 : Hid ((Try.prog.info? 67).map (·.size) = some cN.cells.toArray.size) := Lib.hid size67
      have HO67 : Hid (cN.cells.toArray.all (·.oneCell') = true) := Lib.hid (all_oneCell_toArray (cx_one cN))
      clear hXc hMc hown hcN hln X7 M7 X8 M8 X6 M6
      go_upto_region 25 with (first
        | (refine wpList_load_row rfl _ _ rfl xb rfl 67 cN.cells.toArray (0, 0) _ XC.out Try.underlying67 rfl HS67.out ?_)
        | (refine wpList_store_mid rfl 67 _ _ rfl w.heap.size (i * 14) cN.cells.toArray rfl rfl (MC.out.r.there hi16) HS67.out HO67.out ?_))
      obtain ⟨W12, hW12⟩ : ∃ W12, W12 = wc.setCells w.heap.size (i * 14) cN.cells := ⟨_, rfl⟩
      have K12 : Keep1 w.heap.size wc W12 := by rw [hW12]; exact grownBy_setCells _ _ _ _
      have M12 := Lib.hid (show RM w W12 (updC C i cN) (N + 1) X hb A n P z from MC.out.keepr K12 (by rw [hW12]; exact MC.out.r.setCtx hi16 cN))
      have O12 := Lib.hid (World.ownsRow.kept OC.out K12 (.inr (fun e => by have := (OC.out.lt _ e).1; omega)))
      have HSZ12 := Lib.hid K12.size
      rw [← hW12]
      clear hW12 K12
      obtain ⟨L2, hL2⟩ : ∃ L2 : List Value, L2 = (rcArr (updC C i cN) (N + 1)).toList := ⟨_, rfl⟩
      have hL2a : rcArr (updC C i cN) (N + 1) = L2.toArray := by rw [hL2]
      have hl225 : L2.length = 225 := by rw [hL2, Array.length_toList, rcArr_size]
      have hiz : (Try.prog.info? 70).map (·.size) = some L2.length := by rw [hl225]; exact size70
      have HOL : Hid (∀ v ∈ L2, v.oneCell' = true) := Lib.hid (by
        intro v hv
        have := rc_one (updC C i cN) (N + 1)
        rw [Array.all_eq_true] at this
        rw [hL2] at hv
        obtain ⟨i, hi, e⟩ := List.getElem_of_mem hv
        rw [← e]
        simpa using this i (by simpa using hi))
      have R12 := Lib.hid (show Blk W12 w.heap.size 70 L2.toArray from by rw [← hL2a]; exact M12.out.r)
      have HL2 := Lib.hid hL2a
      clear hL2 hL2a
      have hu := Try.underlying70
      have hra : W12.rangeAt w.heap.size 0 L2 := R12.out.range L2 rfl
      have hth : W12.there (w.heap.size + 1) 0 225 := M12.out.o.there 225 (by rw [rcArr_size]; exact Nat.le_refl _)
      obtain ⟨j0, hj0, hz1, hz2, hz3⟩ := info_parts Try.infoByte
      have hwW := M12.out.b.size
      have hhW := M12.out.h.lt
      refine wp_region_held_drew (S := fun w' => w'.rangeAt w.heap.size 0 L2 ∧ w'.there (w.heap.size + 1) 0 225) (by kernel_rfl) ⟨hra, hth⟩ (fun hHeld => ?_)
      refine' wpAnyH_take (i := 0) (oi := ⟨some 186, _, _, _, _, _⟩) (v := _) rfl (by kernel_rfl) (by kernel_rfl) (by kernel_rfl) (fun _ _ _ h => h) (yieldsIf_load_mid (by rfl) _ _ rfl _ _ rfl L2 _ (fun w h => h.1) hu rfl hiz) (by assumption) ?_
      simp only [Act.put, List.setIfInBounds_toArray, List.set_cons_zero, List.set_cons_succ]
      refine wpAnyH_take (i := 1) (oi := ⟨some 187, _, _, _, _, _⟩) (v := .slice (some ⟨q, 0, none⟩) (1 + ln) cq) rfl (by kernel_rfl) (by kernel_rfl) (by kernel_rfl) (fun _ _ _ h => h) (Or.inl ⟨by rfl, fun W _ => by rfl⟩) (by assumption) ?_
      simp only [Act.put, List.setIfInBounds_toArray, List.set_cons_zero, List.set_cons_succ]
      refine wpAnyH_take (i := 2) (oi := ⟨some 188, _, _, _, _, _⟩) (v := .slice P (n - 20) c2) rfl (by kernel_rfl) (by kernel_rfl) (by kernel_rfl) (fun _ _ _ h => h) (Or.inl ⟨by rfl, fun W _ => by rfl⟩) (by assumption) ?_
      simp only [Act.put, List.setIfInBounds_toArray, List.set_cons_zero, List.set_cons_succ]
      refine wpAnyH_ready (rs := [3]) (by kernel_rfl) (by simp) ?_
      refine AllReadyH.cons (o := ⟨some 189, _, _, _, _, _⟩) rfl (fun K hK => ?_) AllReadyH.nil
      refine step_append_src (by rfl) _ _ 22 (by rfl) (xb + 1) 5 j0 (.int .u8 0) 1 Try.underlying22 hj0 hz1 hz2 hz3 rfl _ (1 + ln) _ (by rfl) O12.out.drew hb P (n - 20) c2 (fun j => .int .u8 (z (20 + j))) (by rfl) M12.out.rp.drew (fun _ => rfl) (by unfold maxLen; omega) (by omega) (by have h1 := MC.out.b.size; have h2 := XC.out.lt; have h3 : xb < W12.heap.size := Nat.lt_of_lt_of_le (show xb < wc.heap.size from h2) HSZ12.out; exact h3) ?_
      intro v6 w6 hown6 hg6 _
      have hqb := (O12.out.lt q rfl).1
      have R6 := Lib.hid (R12.out.drew.grown hg6 (fun e => by simp [Value.ownBlock] at e; omega))
      have O6 := Lib.hid (M12.out.o.drew.grown hg6 (fun e => by simp [Value.ownBlock] at e; omega))
      have B6 := Lib.hid (show Below w.heap.size w w6 from (M12.out.b.drew).grown hg6 hwW (fun k e => by simp [Value.ownBlock] at e; omega))
      have hra6 : w6.rangeAt w.heap.size 0 L2 := R6.out.range L2 rfl
      have hth6 : w6.there (w.heap.size + 1) 0 225 := O6.out.there 225 (by rw [rcArr_size]; exact Nat.le_refl _)
      have HO6 := Lib.hid hown6
      clear hown6 hg6
      refine hK.out _ _ ⟨hra6, hth6⟩ (fun hHeld => ?_)
      clear hK K
      simp only [Act.put, List.setIfInBounds_toArray, List.set_cons_zero, List.set_cons_succ]
      refine wpAnyH_ready (rs := [4]) (by kernel_rfl) (by simp) ?_
      refine AllReadyH.cons (o := ⟨none, _, _, _, _, _⟩) rfl (fun K hK => ?_) AllReadyH.nil
      rw [if_pos (by rfl)]
      refine wp_store_mid _ _ _ rfl _ _ L2.toArray rfl rfl (by simpa [hl225] using hth6) (by simpa using hiz) (all_oneCell_toArray HOL.out) ?_
      refine hK.out _ _ ⟨World.rangeAt_setCells_apart hra6 _ _ _ (by omega), World.there_setCells hth6 _ _ _⟩ (fun hHeld => ?_)
      clear hK K
      simp only [Act.put]
      refine wpAnyH_take (i := 5) (oi := ⟨some 5, _, _, _, _, _⟩) (v := v6) rfl (by kernel_rfl) (by kernel_rfl) (by kernel_rfl) (fun _ _ _ h => h) (Or.inl ⟨by rfl, fun W _ => by rfl⟩) (by assumption) ?_
      simp only [Act.put, List.setIfInBounds_toArray, List.set_cons_zero, List.set_cons_succ]
      refine wpAnyH_take (i := 6) (oi := ⟨some 6, _, _, _, _, _⟩) (v := .int .i64 0) rfl (by kernel_rfl) (by kernel_rfl) (by kernel_rfl) (fun _ _ _ h => h) (Or.inl ⟨by rfl, fun W _ => by rfl⟩) (by assumption) ?_
      simp only [Act.put, List.setIfInBounds_toArray, List.set_cons_zero, List.set_cons_succ]
      refine wpAnyH_done (by kernel_rfl) ?_ _
      go_wp2
      obtain ⟨A6, c6, hv, hc6, _, hf6, hr6⟩ := own_any (f := fun j => .int .u8 (joinY (cFirst (crx C) N X) (cBody (crx C) N X n z) j)) HO6.out (fun j hj => by
        by_cases hjl : j < 1 + ln
        · rw [List.getElem?_append_left (by simpa using hjl)]
          simp only [List.getElem?_map, List.getElem?_range hjl, Option.map_some]
          unfold joinY
          by_cases h0 : j = 0
          · rw [if_pos h0, if_pos h0]
          · rw [if_neg h0, if_neg h0, body_at, ← HLN.out, if_pos (by omega)]
        · rw [List.getElem?_append_right (by simpa using hjl)]
          simp only [List.length_map, List.length_range, List.getElem?_map, List.getElem?_range (show j - (1 + ln) < n - 20 by omega), Option.map_some]
          unfold joinY
          rw [if_neg (by omega), body_at, ← HLN.out, if_neg (by omega), show 20 + (j - 1 - ln) = 20 + (j - (1 + ln)) by omega])
      subst hv
      have hKo : Keep1 (w.heap.size + 1) w6 (w6.setCells (w.heap.size + 1) 0 L2) := grownBy_setCells (w.heap.size + 1) L2 0 w6
      have hO3 := O6.out.lt
      have hst : rState C N X = updC C i cN := by unfold rState; rw [← HI.out, ← HCN.out]
      rw [hst, HL2.out, ← HLN.out]
      refine bodyPost_ret (v := .tuple #[.agg L2.toArray, .slice A6 (1 + ln + (n - 20)) c6, .int .i64 0]) (results_cell_two (g := w.heap.size + 1) (t := 70) (fr := (0, 0)) Try.results69 _ _ L2.toArray _ rfl (O6.out.setWhole L2 (by rw [rcArr_size, hl225])) Try.underlying70 rfl (by simpa using hiz) _ _ rfl rfl) rfl ⟨A6, c6, by rw [show 1 + ln + (n - 20) = 1 + (ln + (n - 20)) by omega], by omega, ?_, ?_⟩
      · have h9 := (hKo.row hr6 (Nat.le_refl _) (fun a e => by have := hf6 a e; omega)).more hKo.size
        rw [show 1 + ln + (n - 20) = 1 + (ln + (n - 20)) by omega] at h9
        exact h9
      · exact below_setCells B6.out (by omega) B6.out.size _ _
end Go.Proofs.Ytejadoadpgcpjaa
namespace Go.Proofs.Ytejadoadpgcpjaa
open Go.RowKit

attribute [local go_sem ↓] Go.wp_at_zero Go.wp_at_succ

def rcS (C : Nat → Cx) (N : Int) (n : Nat) (z : Nat → Int) : Nat → Cx := if pErr n z ≠ 0 then C else rState C N (pHdr n z)
theorem rcompress_any (C : Nat → Cx) (N : Int) (A : Option Addr) (n c : Nat) (z : Nat → Int) (w : World) (ht : ∀ i, i < 16 → 0 ≤ (C i).turn) (hok : ∀ i, i < 16 → (C i).rx.Ok ∧ -1 ≤ (C i).gen ∧ (C i).gen < 256 ∧ ((C i).used = true → 0 ≤ (C i).gen)) (hN : 0 ≤ N ∧ N < 4611686018427387904) (hnc : n ≤ c) (hz : ∀ j, j < n → 0 ≤ z j ∧ z j < 256) (hr : Row w w.heap.size A n (fun j => .int .u8 (z j))) :
    Calls Try.prog 69 #[.agg (rcArr C N), .slice A n c] w (ROut (coLen (crx C) N n z) (coY (crx C) N n z) (ckErr n) (rcS C N n z) (coT N n z) w) := by
  unfold coLen coY coT rcS
  by_cases he : ckErr n = 0
  · rw [if_neg (not_not_intro he), he]
    by_cases hp : pErr n z = 0
    · rw [if_neg (not_not_intro hp), if_neg (not_not_intro hp), if_neg (not_not_intro hp), if_neg (not_not_intro hp)]
      exact rc_good C N A n c z w ht hok hN hp hnc hz hr
    · rw [if_pos hp, if_pos hp, if_pos hp, if_pos hp]
      exact rc_raw C N A n c z w he hp hnc hz hr
  · have hp := ckErr_p n z he
    rw [if_pos he, if_pos hp, if_pos hp, if_pos hp]
    exact (rc_bad C N A n c w he).mono fun e w' ⟨h1, h2⟩ => ⟨none, 0, h1, Nat.le_refl _, Row.nil, h2⟩

def feedCTo (C : Nat → Cx) (z : Nat → Int) : Nat → Nat → Cx
  | 0 => C
  | k + 1 => needC (feedCTo C z k) ((z k).toNat % 16)
def feedC (C : Nat → Cx) (z : Nat → Int) (n : Nat) : Nat → Cx := if anyBad z n then C else feedCTo C z n
theorem alike_feedTo (S : Nat → Rx) (C : Nat → Cx) (z : Nat → Int) (H : ∀ k, Alike (S k) (C k)) : ∀ j k, Alike (feedTo S z j k) (feedCTo C z j k)
  | 0, k => H k
  | j + 1, k => alike_need (feedTo S z j) (feedCTo C z j) ((z j).toNat % 16) (alike_feedTo S C z H j) k
theorem alike_feed (S : Nat → Rx) (C : Nat → Cx) (z : Nat → Int) (n : Nat) (H : ∀ k, Alike (S k) (C k)) : ∀ k, Alike (feedS S z n k) (feedC C z n k) := by
  intro k
  unfold feedS feedC
  by_cases hb : anyBad z n = true
  · rw [if_pos hb, if_pos hb]; exact H k
  · rw [if_neg hb, if_neg hb]; exact alike_feedTo S C z H n k
theorem RB.setNeed {w : World} {g : Nat} {C : Nat → Cx} {N : Int} (h : RB w g C N) {q : Nat} (hq : q < 16) : RB (w.setCell ⟨g, q * 14 + 12, none⟩ (.bool true)) g (updC C q { C q with need := true }) N :=
  h.set hq 12 (by decide) (by omega) _ (fun m hm hne => fourteen (p := fun m => m ≠ 12 → ({ C q with need := true } : Cx).cell m = (C q).cell m) (fun _ => rfl) (fun _ => rfl) (fun _ => rfl) (fun _ => rfl) (fun _ => rfl) (fun _ => rfl) (fun _ => rfl) (fun _ => rfl) (fun _ => rfl) (fun _ => rfl) (fun _ => rfl) (fun _ => rfl) (fun h => absurd rfl h) (fun _ => rfl) m hm hne) rfl

set_option maxRecDepth 100000 in
set_option maxHeartbeats 3200000 in
theorem rfeed_ok (C : Nat → Cx) (N : Int) (A : Option Addr) (n c : Nat) (z : Nat → Int) (hn : n ≤ maxLen) (hz : ∀ j, j < n → 0 ≤ z j ∧ z j < 256) (w : World) (hr : Row w w.heap.size A n (fun j => .int .u8 (z j))) :
    Calls Try.prog 70 #[.agg (rcArr C N), .slice A n c] w fun e w' => e = .returned (.tuple #[.agg (rcArr (feedC C z n) N), .int .i64 (feedErr z n)]) ∧ Below w.heap.size w w' := by
  unfold maxLen at hn
  have hz0 := zero70
  obtain ⟨L, hL⟩ : ∃ L, L = rcArr C N := ⟨_, rfl⟩
  obtain ⟨Z, hZ⟩ : ∃ Z, Z = rcArr (fun _ => zeroC) 0 := ⟨_, rfl⟩
  have HL := Lib.hid hL
  have HZ := Lib.hid hZ
  have HSZ : Hid ((Try.prog.info? 70).map (·.size) = some L.size) := Lib.hid (by rw [hL, rcArr_size]; exact size70)
  have HS2 : Hid (Z.size = L.size) := Lib.hid (by rw [hL, hZ, rcArr_size, rcArr_size])
  have HO1 : Hid (L.all (·.oneCell') = true) := Lib.hid (by rw [hL]; exact rc_one C N)
  rw [← hZ] at hz0
  rw [← hL]
  have HR := Lib.hid hr
  have HZB := Lib.hid hz
  clear hL hZ hr hz
  go_enter Try.func70, Try.ntmps70
  go_wp2
  obtain ⟨W1, hW1⟩ : ∃ W1, W1 = (w.alloc (.cells L 70)).alloc (.cells Z 70) := ⟨_, rfl⟩
  have R1 := Lib.hid (show Blk W1 w.heap.size 70 L from by rw [hW1]; exact (Blk.new w _ _).alloc _)
  have O1 := Lib.hid (show Blk W1 (w.heap.size + 1) 70 Z from by rw [hW1]; exact blk_at _ _ _ _ (by simp))
  have B1 := Lib.hid (show Below w.heap.size w W1 from by rw [hW1]; exact ((Below.refl _ w).alloc (Nat.le_refl _) _).alloc (by simp) _)
  rw [← hW1]
  clear hW1
  have A1 := Lib.hid (HR.out.below B1.out)
  go_loop [6] (fun v => ∃ k : Nat, k ≤ n ∧ v = .int .i64 k ∧ firstBad z 0 n = firstBad z k (n - k)) (fun v => n - (intOf v).toNat)
  case atStart => exact ⟨0, by omega, rfl, rfl⟩
  case round =>
    obtain ⟨k, hk, rfl, hfw⟩ := hrel
    have HF := Lib.hid hfw
    clear hfw
    by_cases hlt : k < n
    · obtain ⟨lb, lo, rfl, hlb, hc⟩ := A1.out (by omega)
      have c0 : W1.cell? ⟨lb, lo + k, none⟩ = some (.int .u8 (z k)) := hc k hlt
      obtain ⟨zz0, zz1⟩ := HZB.out k hlt
      have HST := Lib.hid (show firstBad z k (n - k) = if z k / 16 = 10 then firstBad z (k + 1) (n - (k + 1)) else (k : Int) from by
        rw [show n - k = (n - (k + 1)) + 1 by omega]; rfl)
      clear hc
      by_cases h1 : z k < 160
      · have HB := Lib.hid (show anyBad z n = true from by
          unfold anyBad
          rw [HF.out, HST.out, if_neg (by omega)]
          exact decide_eq_true (by omega))
        go_wp2_with (first
          | (refine wpList_load_row rfl _ _ rfl w.heap.size rfl 70 L (0, 0) _ R1.out Try.underlying70 rfl HSZ.out ?_)
          | (refine wpList_store_row rfl _ _ _ rfl (w.heap.size + 1) L rfl rfl 70 Z O1.out HSZ.out HS2.out HO1.out ?_))
        refine bodyPost_ret (v := .tuple #[.agg L, .int .i64 9]) (results_cell_one (g := w.heap.size + 1) (t := 70) (fr := (0, 0)) Try.results70 _ _ L _ rfl (Blk.setRow O1.out) Try.underlying70 rfl HSZ.out _ rfl) rfl ⟨?_, belowRow B1.out (by omega) _⟩
        unfold feedC feedErr
        rw [if_pos HB.out, if_pos HB.out, ← HL.out]
      · by_cases h2 : 175 < z k
        · have HB := Lib.hid (show anyBad z n = true from by
            unfold anyBad
            rw [HF.out, HST.out, if_neg (by omega)]
            exact decide_eq_true (by omega))
          go_wp2_with (first
            | (refine wpList_load_row rfl _ _ rfl w.heap.size rfl 70 L (0, 0) _ R1.out Try.underlying70 rfl HSZ.out ?_)
            | (refine wpList_store_row rfl _ _ _ rfl (w.heap.size + 1) L rfl rfl 70 Z O1.out HSZ.out HS2.out HO1.out ?_))
          refine bodyPost_ret (v := .tuple #[.agg L, .int .i64 9]) (results_cell_one (g := w.heap.size + 1) (t := 70) (fr := (0, 0)) Try.results70 _ _ L _ rfl (Blk.setRow O1.out) Try.underlying70 rfl HSZ.out _ rfl) rfl ⟨?_, belowRow B1.out (by omega) _⟩
          unfold feedC feedErr
          rw [if_pos HB.out, if_pos HB.out, ← HL.out]
        · go_wp2
          go_round
          case rel => exact ⟨k + 1, by omega, by go_num, by rw [HF.out, HST.out, if_pos (by omega)]⟩
          case measure => simp [intOf]; omega
    · obtain rfl : k = n := by omega
      have HG := Lib.hid (show firstBad z 0 k < 0 from by rw [HF.out, Nat.sub_self]; show (-1 : Int) < 0; omega)
      have HNB := Lib.hid (show anyBad z k = false from by unfold anyBad; exact decide_eq_false (by have := HG.out; omega))
      go_wp2
      go_loopw [7] (fun v wr => ∃ j : Nat, j ≤ k ∧ v = .int .i64 j ∧ RB wr w.heap.size (feedCTo C z j) N ∧ Blk wr (w.heap.size + 1) 70 Z ∧ Below w.heap.size w wr) (fun v _ => k - (intOf v).toNat)
      case atStart => exact ⟨0, by omega, rfl, by unfold RB; show Blk W1 w.heap.size _ (rcArr C N); rw [← HL.out]; exact R1.out, O1.out, B1.out⟩
      case round =>
        obtain ⟨j, hj, rfl, hR, hO, hB⟩ := hrel
        by_cases hlt : j < k
        · obtain ⟨lb, lo, rfl, hlb, hc⟩ := (HR.out.below hB) (by omega)
          have c0 : wr.cell? ⟨lb, lo + j, none⟩ = some (.int .u8 (z j)) := hc j hlt
          have zj := HZB.out j hlt
          have z10 := firstBad_good z k 0 (by have := HG.out; exact this) j (by omega) (by omega)
          obtain ⟨q, hq⟩ : ∃ q, q = (z j).toNat % 16 := ⟨_, rfl⟩
          have hzq : z j - 160 = (q : Int) := by omega
          have kw : IntKind.i64.wrap (z j - 160) = (q : Int) := by rw [hzq]; exact IntWalk.i64_in _ (by omega)
          have q16 : q < 16 := by omega
          have q0 : (0 : Int) ≤ (q : Int) := by omega
          have q1 : (q : Int) < 16 := by omega
          have cu : wr.cell? ⟨w.heap.size, q * 14, none⟩ = some (.bool (feedCTo C z j q).used) := (hR.cells q16 (by omega)).1
          have cn : wr.cell? ⟨w.heap.size, q * 14 + 12, none⟩ = some (.bool (feedCTo C z j q).need) := hR.ctx (o := q * 14) q16 12 (by decide) (by omega)
          have fn := hR.fr (q * 14 + 12)
          have HST := Lib.hid (show feedCTo C z (j + 1) = if (feedCTo C z j q).used then updC (feedCTo C z j) q { feedCTo C z j q with need := true } else feedCTo C z j from by rw [hq]; rfl)
          have RN := Lib.hid (hR.setNeed q16)
          have ON := Lib.hid (hO.far (p := ⟨w.heap.size, q * 14 + 12, none⟩) (by simp) (.bool true))
          have BN := Lib.hid (hB.setCell (p := ⟨w.heap.size, q * 14 + 12, none⟩) (Nat.le_refl _) (.bool true))
          obtain ⟨u, hu⟩ : ∃ u, u = (feedCTo C z j q).used := ⟨_, rfl⟩
          rw [← hu] at cu HST
          have HRR := Lib.hid hR
          have HOO := Lib.hid hO
          have HBB := Lib.hid hB
          clear hR hO hB hc hq hu hzq z10
          cases u
          · go_wp2
            go_roundw
            case rel => first | exact ⟨j + 1, by omega, by go_num, by rw [HST.out]; exact HRR.out, HOO.out, HBB.out⟩ | ((repeat apply Exists.intro); exact ⟨⟨j + 1, by omega, by go_num, by rw [HST.out]; exact HRR.out, HOO.out, HBB.out⟩, rfl⟩)
            case measure => simp [intOf]; omega
          · go_wp2
            go_roundw
            case rel => first | exact ⟨j + 1, by omega, by go_num, by rw [HST.out]; exact RN.out, ON.out, BN.out⟩ | ((repeat apply Exists.intro); exact ⟨⟨j + 1, by omega, by go_num, by rw [HST.out]; exact RN.out, ON.out, BN.out⟩, rfl⟩)
            case measure => simp [intOf]; omega
        · obtain rfl : j = k := by omega
          obtain ⟨L2, hL2⟩ : ∃ L2, L2 = rcArr (feedCTo C z j) N := ⟨_, rfl⟩
          have HL2 := Lib.hid hL2
          have R2 := Lib.hid (show Blk wr w.heap.size 70 L2 from by rw [hL2]; exact hR)
          have HSZ2 : Hid ((Try.prog.info? 70).map (·.size) = some L2.size) := Lib.hid (by rw [hL2, rcArr_size]; exact size70)
          have HS22 : Hid (Z.size = L2.size) := Lib.hid (by rw [hL2, HZ.out, rcArr_size, rcArr_size])
          have HO2 : Hid (L2.all (·.oneCell') = true) := Lib.hid (by rw [hL2]; exact rc_one _ _)
          have OO := Lib.hid hO
          have BB := Lib.hid hB
          clear hR hO hB hL2
          go_wp2_with (first
            | (refine wpList_load_row rfl _ _ rfl w.heap.size rfl 70 L2 (0, 0) _ R2.out Try.underlying70 rfl HSZ2.out ?_)
            | (refine wpList_store_row rfl _ _ _ rfl (w.heap.size + 1) L2 rfl rfl 70 Z OO.out HSZ2.out HS22.out HO2.out ?_))
          refine bodyPost_ret (v := .tuple #[.agg L2, .int .i64 0]) (results_cell_one (g := w.heap.size + 1) (t := 70) (fr := (0, 0)) Try.results70 _ _ L2 _ rfl (Blk.setRow OO.out) Try.underlying70 rfl HSZ2.out _ rfl) rfl ⟨?_, belowRow BB.out (by omega) _⟩
          unfold feedC feedErr
          rw [if_neg (by rw [HNB.out]; decide), if_neg (by rw [HNB.out]; decide), ← HL2.out]

set_option maxRecDepth 100000 in
theorem clone_made (g : Nat) (S : Nat → Rx) (T : Int) (w : World) (h : CB w g true S T) :
    Calls Try.prog 42 #[.pointer (some ⟨g, 0, none⟩)] w fun e w' => e = .returned (.pointer (some ⟨w.heap.size, 0, none⟩)) ∧ CB w' w.heap.size true S T ∧ Below w.heap.size w w' := by
  have HB := Lib.hid (none_ok g true S T w h)
  have hz := zero91
  obtain ⟨L, hL⟩ : ∃ L, L = csArr true S T := ⟨_, rfl⟩
  obtain ⟨Z, hZ⟩ : ∃ Z, Z = csArr false (fun _ => Rx.zero) 0 := ⟨_, rfl⟩
  have HSZ : Hid ((Try.prog.info? 91).map (·.size) = some L.size) := Lib.hid (by rw [hL, csArr_size]; exact size91)
  have HS2 : Hid (Z.size = L.size) := Lib.hid (by rw [hL, hZ, csArr_size, csArr_size])
  have HO1 : Hid (L.all (·.oneCell') = true) := Lib.hid (by rw [hL]; exact cs_one true S T)
  have HK := Lib.hid (show Blk w g 91 L from by rw [hL]; exact h)
  have HL := Lib.hid hL
  rw [← hZ] at hz
  clear h hL hZ
  go_enter Try.func42, Try.ntmps42
  go_wp2_with (first
    | (go_at_call 62; refine (HB.out).mono ?_; rintro e w1 ⟨rfl, rfl⟩)
    | (refine wpList_load_row rfl _ _ rfl g rfl 91 L (0, 0) _ HK.out Try.underlying91 rfl HSZ.out ?_)
    | (refine wpList_store_row rfl _ _ _ rfl w.heap.size L rfl rfl 91 Z (Blk.new w _ _) HSZ.out HS2.out HO1.out ?_))
  go_ret
  refine ⟨rfl, ?_, belowRow ((Below.refl _ w).alloc (Nat.le_refl _) _) (Nat.le_refl _) _⟩
  unfold CB
  rw [← HL.out]
  exact Blk.setRow (Blk.new w _ _)
end Go.Proofs.Ytejadoadpgcpjaa
namespace Go.Proofs.Ytejadoadpgcpjaa
open Go.RowKit

attribute [local go_sem ↓] Go.wp_at_zero Go.wp_at_succ

theorem wpStill_load_row {P : Program} {ops : Array Oper} {w : World} {Q : Act → Prop} {a : Act} {o : Oper} {rest : List Oper} (hgd : o.guard = none) (ty : TypeId) (x : Operand) (ho : o.op = .load ty x)
    (g : Nat) (hx : a.eval x = .pointer (some ⟨g, 0, none⟩)) (t : TypeId) (cs : Array Value) (d : TypeDesc) (hg : Blk w g t cs)
    (hu : P.underlying ty = some d) (hd : (match d with | .struct _ | .array _ _ => true | _ => false) = true) (hi : (P.info? ty).map (·.size) = some cs.size)
    (h : wpStill P ops w Q rest (a.put o.dst (.agg cs))) : wpStill P ops w Q (o :: rest) a := by
  unfold wpStill
  rw [if_pos (by simp [Region.wanted, hgd])]
  unfold Oper.still execOp
  simp only [ho, hx, Instr.loadAt, Instr.sureAddr, Sem.run_bind, Sem.run_pure, Result.andThen_ok, run_loadVar_row w g t ty cs (0, 0) d hg hu hd hi]
  exact ⟨rfl, h⟩
theorem results_tmp_cell_tmp {P : Program} {fn : Func} {p q r : Tmp} {ty : TypeId} (h : fn.results = #[.tmp q, .cell p ty, .tmp r]) (tmps : Array Value) (w : World) (g : Nat) (t : TypeId) (cs : Array Value) (fr : Nat × Nat) (d : TypeDesc)
    (hp : tmps.getD p undef = .pointer (some ⟨g, 0, none⟩)) (hg : w.heap[g]? = some (.cells cs t fr))
    (hu : P.underlying ty = some d) (hd : (match d with | .struct _ | .array _ _ => true | _ => false) = true) (hi : (P.info? ty).map (·.size) = some cs.size) (u v : Value) (hq : tmps.getD q undef = u) (hr : tmps.getD r undef = v) :
    (results fn tmps).run P w = .ok (.tuple #[u, .agg cs, v]) w := by
  subst hq hr
  have hp' : tmps[p]?.getD undef = .pointer (some ⟨g, 0, none⟩) := by simpa using hp
  simp [results, h, hp', asAddr, run_loadVar_row w g t ty cs fr d hg hu hd hi]

theorem alike_ok {S : Nat → Rx} {C : Nat → Cx} (H : ∀ k, Alike (S k) (C k)) : ∀ i, i < 16 → (C i).rx.Ok ∧ -1 ≤ (C i).gen ∧ (C i).gen < 256 ∧ ((C i).used = true → 0 ≤ (C i).gen) := fun i _ => by
  have A := H i
  refine ⟨?_, ?_, ?_, fun hu => (A.gen hu).1⟩
  · have h := A.ok
    rw [A.form] at h
    exact ⟨h.hops, h.ident, h.time, h.gen, h.step⟩
  · by_cases hu : (C i).used = true
    · have := A.gen hu; omega
    · rw [A.fresh (by simpa using hu)]; decide
  · by_cases hu : (C i).used = true
    · have := A.gen hu; omega
    · rw [A.fresh (by simpa using hu)]; decide
theorem alike_coLen {S : Nat → Rx} {C : Nat → Cx} (H : ∀ k, Alike (S k) (C k)) (T : Int) (n : Nat) (z : Nat → Int) : coLen S T n z = coLen (crx C) T n z := by
  unfold coLen; rw [alike_len S C T _ H]
theorem alike_coY {S : Nat → Rx} {C : Nat → Cx} (H : ∀ k, Alike (S k) (C k)) (T : Int) (n : Nat) (z : Nat → Int) : coY S T n z = coY (crx C) T n z := by
  unfold coY; rw [alike_first S C T _ H, alike_body S C T _ H]
theorem alike_coS {S : Nat → Rx} {C : Nat → Cx} (H : ∀ k, Alike (S k) (C k)) (T : Int) (hT : 0 ≤ T) (n : Nat) (z : Nat → Int) : ∀ k, Alike (coS S T n z k) (rcS C T n z k) := by
  intro k
  unfold coS rcS
  by_cases hp : pErr n z = 0
  · rw [if_neg (not_not_intro hp), if_neg (not_not_intro hp)]
    have b5 := pHdr_lt n z 5
    have b6 := pHdr_lt n z 6
    have b7 := pHdr_lt n z 7
    rw [show ((2 ^ pwd (5 + 1) : Nat) : Int) = 256 from by decide] at b5
    rw [show ((2 ^ pwd (6 + 1) : Nat) : Int) = 65536 from by decide] at b6
    rw [show ((2 ^ pwd (7 + 1) : Nat) : Int) = 16777216 from by decide] at b7
    exact alike_step S C T _ hT b5 b6 b7 H k
  · rw [if_pos hp, if_pos hp]; exact H k
theorem coT_le (T : Int) (n : Nat) (z : Nat → Int) : T ≤ coT T n z ∧ coT T n z ≤ T + 1 := by
  unfold coT; split <;> omega
theorem coLen_le (S : Nat → Rx) (T : Int) (n : Nat) (z : Nat → Int) (hn : n ≤ 100) : coLen S T n z ≤ 200 := by
  unfold coLen
  have := cLen_le S T (pHdr n z)
  split
  · omega
  · split <;> omega

/-- what act leaves -/
def AOut (g : Nat) (T : Int) (w : World) (e : Ending) (w' : World) : Prop :=
  ∃ (g' : Nat) (S' : Nat → Rx) (C' : Nat → Cx) (T' : Int), e = .returned (.tuple #[.pointer (some ⟨g', 0, none⟩), .agg (rcArr C' T'), .bool true]) ∧ CB w' g' true S' T' ∧ (∀ k, Alike (S' k) (C' k)) ∧ 0 ≤ T' ∧ T' ≤ T + 1 ∧ (g' = g ∨ w.heap.size ≤ g') ∧ Keep1 g w w'

set_option maxRecDepth 100000 in
set_option maxHeartbeats 6400000 in
theorem act_compress (g : Nat) (S : Nat → Rx) (T : Int) (C : Nat → Cx) (what : Int) (A : Option Addr) (n c : Nat) (z : Nat → Int) (hw : 0 ≤ what ∧ what < 4) (hn : n ≤ 100) (hnc : n ≤ c) (hz : ∀ j, j < n → 0 ≤ z j ∧ z j < 256) (hT : 0 ≤ T ∧ T < 4611686018427387904) (H : ∀ k, Alike (S k) (C k)) (w : World) (h : CB w g true S T) (hr : Row w w.heap.size A n (fun j => .int .u8 (z j))) (hg : ∀ a, A = some a → n ≠ 0 → a.block ≠ g) :
    Calls Try.prog 39 #[.pointer (some ⟨g, 0, none⟩), .agg (rcArr C T), .agg #[.int .i64 what, .slice A n c]] w (AOut g T w) := by
  have hok := fun i (_ : i < 16) => (H i).ok
  have hz0 := zero70
  have HCC := Lib.hid (fun W => ccheck_ok A n c W)
  have HCO := Lib.hid (fun (W : World) (A1 : Option Addr) (c1 : Nat) (hK : CB W g true S T) (hc1 : n ≤ c1) (hR : Row W W.heap.size A1 n (fun j => .int .u8 (z j))) (hf : ∀ a, A1 = some a → a.block ≠ g) => compress_any g S T A1 n c1 z W hK hok hT hc1 hz hR hf)
  have HRC := Lib.hid (fun (W : World) (hR : Row W W.heap.size A n (fun j => .int .u8 (z j))) => rcompress_any C T A n c z W (fun i _ => (H i).turn) (alike_ok H) hT hnc hz hR)
  unfold COut at HCO
  unfold ROut at HRC
  rw [alike_coLen H, alike_coY H] at HCO
  have hcl := coLen_le (crx C) T n z hn
  obtain ⟨Lo, hLo⟩ : ∃ Lo, Lo = coLen (crx C) T n z := ⟨_, rfl⟩
  obtain ⟨Y, hY⟩ : ∃ Y, Y = coY (crx C) T n z := ⟨_, rfl⟩
  obtain ⟨E, hE⟩ : ∃ E, E = ckErr n := ⟨_, rfl⟩
  obtain ⟨S2, hS2⟩ : ∃ S2, S2 = coS S T n z := ⟨_, rfl⟩
  obtain ⟨T2, hT2⟩ : ∃ T2, T2 = coT T n z := ⟨_, rfl⟩
  obtain ⟨C2, hC2⟩ : ∃ C2, C2 = rcS C T n z := ⟨_, rfl⟩
  have HAL := Lib.hid (show ∀ k, Alike (S2 k) (C2 k) from by rw [hS2, hC2]; exact alike_coS H T hT.1 n z)
  have hT2b := coT_le T n z
  rw [← hT2] at hT2b
  rw [← hLo, ← hY, ← hE, ← hS2, ← hT2] at HCO
  rw [← hLo, ← hY, ← hE, ← hC2, ← hT2] at HRC
  rw [← hE] at HCC
  rw [← hLo] at hcl
  obtain ⟨L, hL⟩ : ∃ L, L = rcArr C T := ⟨_, rfl⟩
  obtain ⟨L2, hL2⟩ : ∃ L2, L2 = rcArr C2 T2 := ⟨_, rfl⟩
  obtain ⟨Z, hZ⟩ : ∃ Z, Z = rcArr (fun _ => zeroC) 0 := ⟨_, rfl⟩
  rw [← hL, ← hL2] at HRC
  rw [← hZ] at hz0
  have HSZ : Hid ((Try.prog.info? 70).map (·.size) = some L.size) := Lib.hid (by rw [hL, rcArr_size]; exact size70)
  have HSZ2 : Hid ((Try.prog.info? 70).map (·.size) = some L2.size) := Lib.hid (by rw [hL2, rcArr_size]; exact size70)
  have HZ2 : Hid (Z.size = L2.size) := Lib.hid (by rw [hL2, hZ, rcArr_size, rcArr_size])
  have HO2 : Hid (L2.all (·.oneCell') = true) := Lib.hid (by rw [hL2]; exact rc_one _ _)
  have HL2 := Lib.hid hL2
  have HZZ := Lib.hid hZ
  rw [← hL]
  have HK := Lib.hid h
  have HR := Lib.hid hr
  have HGA := Lib.hid hg
  have hgl := h.lt
  obtain ⟨i0, hi0, hz1, hz2, hz3⟩ := info_parts Try.infoByte
  obtain ⟨w0, w4⟩ := hw
  clear hL hL2 hZ hLo hY hE hS2 hT2 hC2 h hr hg hok hz H
  go_enter Try.func39, Try.ntmps39
  go_upto_region 2 with (fail)
  obtain ⟨W1, hW1⟩ : ∃ W1, W1 = ((w.alloc (.cells L 70)).alloc (.cells #[.int .i64 what, .slice A n c] 75)).alloc (.cells Z 70) := ⟨_, rfl⟩
  have B1 := Lib.hid (show Below w.heap.size w W1 from by rw [hW1]; exact (((Below.refl _ w).alloc (Nat.le_refl _) _).alloc (by simp) _).alloc (by simp; omega) _)
  have P1 := Lib.hid (show Blk W1 w.heap.size 70 L from by rw [hW1]; exact ((Blk.new w _ _).alloc _).alloc _)
  have Q1 := Lib.hid (show Blk W1 (w.heap.size + 1) 75 #[.int .i64 what, .slice A n c] from by rw [hW1]; exact (blk_at _ _ _ _ (by simp)).alloc _)
  have O1 := Lib.hid (show Blk W1 (w.heap.size + 1 + 1) 70 Z from by rw [hW1]; exact blk_at _ _ _ _ (by simp))
  rw [← hW1]
  clear hW1
  have q1 := Q1.out.cell 1
  have OE := Lib.hid (owns_empty W1 5)
  have R1 := Lib.hid (row_new ((HR.out.below B1.out).more B1.out.size) (.cells #[] 5))
  have hq1l := Q1.out.lt
  go_upto_region 4 with (first
    | (at_builtin; refine wpList_append_src _ rfl _ _ 22 rfl W1.heap.size 5 i0 (.int .u8 0) 1 Try.underlying22 hi0 hz1 hz2 hz3 rfl _ 0 _ rfl OE.out _ A n c (fun j => .int .u8 (z j)) rfl R1.out (fun _ => rfl) (by unfold maxLen; omega) (by omega) (by simp) ?_; intro v2 w2 hown2 hg2 _; have B2 := Lib.hid (show Below W1.heap.size W1 w2 from copy_below hg2); obtain ⟨A2, c2, hv2, hc2, _, hf2, hr2⟩ := own_any (f := fun j => .int .u8 (z j)) hown2 (fun j hj => by have : j < n := (by omega); simp [this]); subst hv2; have R2 := Lib.hid hr2; have F2 := Lib.hid hf2; have HC2 := Lib.hid hc2; clear hown2 hg2 hr2 hf2 hc2)
    | (go_at_call 32; refine (HCO.out w2 A2 c2 (HK.out.below (B1.out.trans (B2.out.mono B1.out.size)) hgl) (by have := HC2.out; omega) (by have := R2.out; rw [Nat.zero_add] at this; exact this) (fun a e => by have := F2.out a e; have := B1.out.size; omega)).mono ?_; rintro e w3 ⟨A3, c3, rfl, hc3, hF3, hR3, hK3, hE3⟩; have R3 := Lib.hid hR3; have K3 := Lib.hid hK3; have E3 := Lib.hid hE3; have F3 := Lib.hid hF3; clear hR3 hK3 hE3 hF3 hc3))
  have n3 := E3.out.size
  have n2 := B2.out.size
  have n1 := B1.out.size
  have n1b := O1.out.lt
  have P3 := Lib.hid (E3.out.blk (P1.out.below B2.out P1.out.lt) (by omega))
  have Q3 := Lib.hid (E3.out.blk (Q1.out.below B2.out Q1.out.lt) (by omega))
  have O3 := Lib.hid (E3.out.blk (O1.out.below B2.out O1.out.lt) (by omega))
  have G3 := Lib.hid (show Keep1 g w w3 from (keep_of_below (B1.out.trans (B2.out.mono B1.out.size))).trans E3.out)
  have RX3 := Lib.hid ((G3.out.rown HR.out (Nat.le_refl _) HGA.out).more G3.out.size)
  have RO3 := Lib.hid (show Row w3 w3.heap.size A2 n (fun j => .int .u8 (z j)) from by
    have := R2.out
    rw [Nat.zero_add] at this
    exact (E3.out.row this (Nat.le_refl _) (fun a e => by have := F2.out a e; omega)).more E3.out.size)
  have q3 := Q3.out.cell 1
  clear q1 hq1l
  go_upto_region 5 with (first
    | (refine wpList_load_row rfl _ _ rfl w.heap.size rfl 70 L (0, 0) _ P3.out Try.underlying70 rfl HSZ.out ?_)
    | (go_at_call 69; refine (HRC.out w3 RX3.out).mono ?_; rintro e w4 ⟨A4, c4, rfl, hc4, hR4, hB4⟩; have R4 := Lib.hid hR4; have B4 := Lib.hid hB4; clear hR4 hB4 hc4)
    | (refine wpList_store_row rfl _ _ _ rfl w4.heap.size L2 rfl rfl 70 Z (Blk.new w4 _ _) HSZ2.out HZ2.out HO2.out ?_))
  obtain ⟨W5, hW5⟩ : ∃ W5, W5 = (w4.alloc (.cells Z 70)).setRow w4.heap.size L2 := ⟨_, rfl⟩
  have B45 := Lib.hid (show Below w4.heap.size w4 W5 from by rw [hW5]; exact belowRow ((Below.refl _ w4).alloc (Nat.le_refl _) _) (Nat.le_refl _) _)
  have B35 := Lib.hid (show Below w3.heap.size w3 W5 from B4.out.trans (B45.out.mono B4.out.size))
  have V5 := Lib.hid (show Blk W5 w4.heap.size 70 L2 from by rw [hW5]; exact Blk.setRow (Blk.new w4 _ _))
  rw [← hW5]
  clear hW5 q3
  have Q5 := Lib.hid (Q3.out.below B35.out Q3.out.lt)
  have O5 := Lib.hid (O3.out.below B35.out O3.out.lt)
  have K5 := Lib.hid (K3.out.below B35.out K3.out.lt)
  have G5 := Lib.hid (show Keep1 g w W5 from G3.out.trans (keep_of_below B35.out))
  have q5 := Q5.out.cell 1
  have n4 := B4.out.size
  obtain ⟨ob, hob⟩ : ∃ ob, ob = w.heap.size + 1 + 1 := ⟨_, rfl⟩
  obtain ⟨vb, hvb⟩ : ∃ vb, vb = w4.heap.size := ⟨_, rfl⟩
  obtain ⟨L2l, hL2l⟩ : ∃ L2l : List Value, L2l = L2.toList := ⟨_, rfl⟩
  have hL2a : L2 = L2l.toArray := by rw [hL2l]
  have hl225 : L2l.length = 225 := by rw [hL2l, Array.length_toList, HL2.out, rcArr_size]
  have hiz : (Try.prog.info? 70).map (·.size) = some L2l.length := by rw [hl225]; exact size70
  have hu := Try.underlying70
  have HO2l : Hid (∀ v ∈ L2l, v.oneCell' = true) := Lib.hid (by
    intro v hv
    have := HO2.out
    rw [Array.all_eq_true] at this
    rw [hL2l] at hv
    obtain ⟨i, hi, e⟩ := List.getElem_of_mem hv
    rw [← e]
    simpa using this i (by simpa using hi))
  have hgo : g < ob := by omega
  have V5b := Lib.hid (show Blk W5 vb 70 L2l.toArray from by rw [hvb, ← hL2a]; exact V5.out)
  have O5b := Lib.hid (show Blk W5 ob 70 Z from by rw [hob]; exact O5.out)
  have HZS := Lib.hid (show Z.size = 225 from by have := HZ2.out; rw [this, hL2a]; simpa using hl225)
  have hvo : vb ≠ ob := by have := O3.out.lt; omega
  have hqo : w.heap.size + 1 ≠ ob := by omega
  rw [← hob, ← hvb]
  have HOB := Lib.hid hob
  have HL2A := Lib.hid hL2a
  have X3 := Lib.hid (R3.out.below B35.out)
  have X4 := Lib.hid (R4.out.below B45.out)
  have X2 := Lib.hid (RO3.out.below B35.out)
  have X1 := Lib.hid ((HR.out.below B1.out).below (B2.out.mono B1.out.size))
  have XA := Lib.hid (G5.out.rown HR.out (Nat.le_refl _) HGA.out)
  have HA3 := Lib.hid (show ∀ a, A3 = some a → a.block ≠ ob from fun a e => by have := F3.out a e; have := O1.out.lt; have := B2.out.size; rw [HOB.out]; omega)
  have HA2 := Lib.hid (show ∀ a, A2 = some a → a.block ≠ ob from fun a e => by have := F2.out a e; have := O1.out.lt; rw [HOB.out]; omega)
  have HA4 := Lib.hid (show ∀ a, A4 = some a → Lo ≠ 0 → a.block ≠ ob from row_rc R4.out (show Blk w4 ob 70 (rcArr (fun _ => zeroC) 0) from by rw [HOB.out, ← HZZ.out]; exact O3.out.below B4.out O3.out.lt))
  have HAA := Lib.hid (show ∀ a, A = some a → n ≠ 0 → a.block ≠ ob from fun a e hn => by
    obtain ⟨b, off, e2, hb, _⟩ := HR.out (by omega)
    rw [e] at e2; cases e2
    show b ≠ ob
    rw [HOB.out]; omega)
  have ST := Lib.hid (fun (W : World) (hW : Keep1 ob W5 W) => row_string 22 9 5 Try.underlying22 Try.underlying5 Try.underlying9 (hW.row X3.out B35.out.size HA3.out) c3)
  have ST2 := Lib.hid (fun (W : World) (hW : Keep1 ob W5 W) => row_string 22 9 5 Try.underlying22 Try.underlying5 Try.underlying9 (show Row W w4.heap.size A2 n (fun j => .int .u8 (z j)) from (hW.row X2.out B35.out.size HA2.out).more B4.out.size) c2)
  have ST4 := Lib.hid (fun (W : World) (hW : Keep1 ob W5 W) => row_string 22 9 5 Try.underlying22 Try.underlying5 Try.underlying9 (show Row W w4.heap.size A4 Lo (fun j => .int .u8 (Y j)) from by
    by_cases h0 : Lo = 0
    · rw [h0]; exact Row.nil
    · exact hW.row X4.out B45.out.size (fun a e => HA4.out a e h0)) c4)
  have STA := Lib.hid (fun (W : World) (hW : Keep1 ob W5 W) => row_string 22 9 5 Try.underlying22 Try.underlying5 Try.underlying9 (show Row W w.heap.size A n (fun j => .int .u8 (z j)) from by
    by_cases h0 : n = 0
    · rw [h0]; exact Row.nil
    · exact hW.row XA.out G5.out.size (fun a e => HAA.out a e h0)) c)
  have hqc : ∀ W : World, Keep1 ob W5 W → W.cell? ⟨w.heap.size + 1, 1, none⟩ = some (.slice A n c) := fun W hW => (hW.blk Q5.out hqo).cell 1
  have HQC := Lib.hid hqc
  clear hqc hob hvb hL2l hL2a q5 n1 n2 n3 n4 n1b
  refine wp_region_held_drew (S := fun w' => Keep1 ob W5 w' ∧ w'.there ob 0 225) (by kernel_rfl) ⟨grownBy_drew (World.grownBy_refl _ _), by simpa using O5b.out.there 225 (by rw [HZS.out]; exact Nat.le_refl _)⟩ (fun hHeld => ?_)
  refine wpAnyH_take (i := 0) (oi := ⟨some 44, _, _, _, _, _⟩) (v := .pointer (some ⟨g, 0, none⟩)) rfl (by kernel_rfl) (by kernel_rfl) (by kernel_rfl) (fun _ _ _ h => h) (Or.inl ⟨by rfl, fun W hW => by rfl⟩) (by assumption) ?_
  simp only [Act.put, List.setIfInBounds_toArray, List.set_cons_zero, List.set_cons_succ]
  refine' wpAnyH_take (i := 1) (oi := ⟨some 45, _, _, _, _, _⟩) (v := _) rfl (by kernel_rfl) (by kernel_rfl) (by kernel_rfl) (fun _ _ _ h => h) (yieldsIf_load_mid (by rfl) _ _ rfl _ _ rfl L2l _ (fun w h => (h.1.blk V5b.out hvo).range L2l rfl) hu rfl hiz) (by assumption) ?_
  simp only [Act.put, List.setIfInBounds_toArray, List.set_cons_zero, List.set_cons_succ]
  refine wpAnyH_take (i := 2) (oi := ⟨some 46, _, _, _, _, _⟩) (v := .slice A3 Lo c3) rfl (by kernel_rfl) (by kernel_rfl) (by kernel_rfl) (fun _ _ _ h => h) (Or.inl ⟨by rfl, fun W hW => by rfl⟩) (by assumption) ?_
  simp only [Act.put, List.setIfInBounds_toArray, List.set_cons_zero, List.set_cons_succ]
  refine wpAnyH_take (i := 3) (oi := ⟨some 47, _, _, _, _, _⟩) (v := .string (bytesOf Lo Y)) rfl (by kernel_rfl) (by kernel_rfl) (by kernel_rfl) (fun _ _ _ h => h) (Or.inl ⟨by rfl, fun W hW => (by have s := ST.out W hW.1; go_simp)⟩) (by assumption) ?_
  simp only [Act.put, List.setIfInBounds_toArray, List.set_cons_zero, List.set_cons_succ]
  refine wpAnyH_take (i := 4) (oi := ⟨some 48, _, _, _, _, _⟩) (v := .slice A4 Lo c4) rfl (by kernel_rfl) (by kernel_rfl) (by kernel_rfl) (fun _ _ _ h => h) (Or.inl ⟨by rfl, fun W hW => by rfl⟩) (by assumption) ?_
  simp only [Act.put, List.setIfInBounds_toArray, List.set_cons_zero, List.set_cons_succ]
  refine wpAnyH_take (i := 5) (oi := ⟨some 49, _, _, _, _, _⟩) (v := .string (bytesOf Lo Y)) rfl (by kernel_rfl) (by kernel_rfl) (by kernel_rfl) (fun _ _ _ h => h) (Or.inl ⟨by rfl, fun W hW => (by have s := ST4.out W hW.1; go_simp)⟩) (by assumption) ?_
  simp only [Act.put, List.setIfInBounds_toArray, List.set_cons_zero, List.set_cons_succ]
  refine wpAnyH_take (i := 6) (oi := ⟨some 50, _, _, _, _, _⟩) (v := .bool true) rfl (by kernel_rfl) (by kernel_rfl) (by kernel_rfl) (fun _ _ _ h => h) (Or.inl ⟨by rfl, fun W hW => (by go_simp)⟩) (by assumption) ?_
  simp only [Act.put, List.setIfInBounds_toArray, List.set_cons_zero, List.set_cons_succ]
  refine wpAnyH_take (i := 7) (oi := ⟨some 51, _, _, _, _, _⟩) (v := .bool true) rfl (by kernel_rfl) (by kernel_rfl) (by kernel_rfl) (fun _ _ _ h => h) (Or.inl ⟨by rfl, fun W hW => by rfl⟩) (by assumption) ?_
  simp only [Act.put, List.setIfInBounds_toArray, List.set_cons_zero, List.set_cons_succ]
  refine wpAnyH_take (i := 8) (oi := ⟨some 52, _, _, _, _, _⟩) (v := .int .i64 E) rfl (by kernel_rfl) (by kernel_rfl) (by kernel_rfl) (fun _ _ _ h => h) (Or.inl ⟨by rfl, fun W hW => by rfl⟩) (by assumption) ?_
  simp only [Act.put, List.setIfInBounds_toArray, List.set_cons_zero, List.set_cons_succ]
  refine wpAnyH_take (i := 10) (oi := ⟨some 54, _, _, _, _, _⟩) (v := .int .i64 E) rfl (by kernel_rfl) (by kernel_rfl) (by kernel_rfl) (fun _ _ _ h => h) (Or.inl ⟨by rfl, fun W hW => by rfl⟩) (by assumption) ?_
  simp only [Act.put, List.setIfInBounds_toArray, List.set_cons_zero, List.set_cons_succ]
  refine wpAnyH_ready (rs := [9]) (by kernel_rfl) (by simp) ?_
  refine AllReadyH.cons (o := ⟨some 53, _, _, _, _, _⟩) rfl (fun K hK => ?_) AllReadyH.nil
  go_simp
  refine (num43_ok _ _).mono ?_
  rintro e w6 ⟨rfl, rfl⟩
  dsimp only
  refine hK.out _ _ (by assumption) (fun hHeld => ?_)
  clear hK K
  refine wpAnyH_take (i := 11) (oi := ⟨some 55, _, _, _, _, _⟩) (v := .bool true) rfl (by kernel_rfl) (by kernel_rfl) (by kernel_rfl) (fun _ _ _ h => h) (Or.inl ⟨by rfl, fun W hW => (by go_simp)⟩) (by assumption) ?_
  simp only [Act.put, List.setIfInBounds_toArray, List.set_cons_zero, List.set_cons_succ]
  refine wpAnyH_take (i := 12) (oi := ⟨some 56, _, _, _, _, _⟩) (v := .bool true) rfl (by kernel_rfl) (by kernel_rfl) (by kernel_rfl) (fun _ _ _ h => h) (Or.inl ⟨by rfl, fun W hW => by rfl⟩) (by assumption) ?_
  simp only [Act.put, List.setIfInBounds_toArray, List.set_cons_zero, List.set_cons_succ]
  refine wpAnyH_take (i := 13) (oi := ⟨some 57, _, _, _, _, _⟩) (v := .bool true) rfl (by kernel_rfl) (by kernel_rfl) (by kernel_rfl) (fun _ _ _ h => h) (Or.inl ⟨by rfl, fun W hW => by rfl⟩) (by assumption) ?_
  simp only [Act.put, List.setIfInBounds_toArray, List.set_cons_zero, List.set_cons_succ]
  refine wpAnyH_take (i := 14) (oi := ⟨some 58, _, _, _, _, _⟩) (v := .slice A2 n c2) rfl (by kernel_rfl) (by kernel_rfl) (by kernel_rfl) (fun _ _ _ h => h) (Or.inl ⟨by rfl, fun W hW => by rfl⟩) (by assumption) ?_
  simp only [Act.put, List.setIfInBounds_toArray, List.set_cons_zero, List.set_cons_succ]
  refine wpAnyH_take (i := 15) (oi := ⟨some 59, _, _, _, _, _⟩) (v := .string (bytesOf n z)) rfl (by kernel_rfl) (by kernel_rfl) (by kernel_rfl) (fun _ _ _ h => h) (Or.inl ⟨by rfl, fun W hW => (by have s := ST2.out W hW.1; go_simp)⟩) (by assumption) ?_
  simp only [Act.put, List.setIfInBounds_toArray, List.set_cons_zero, List.set_cons_succ]
  refine wpAnyH_take (i := 16) (oi := ⟨some 60, _, _, _, _, _⟩) (v := .pointer (some ⟨w.heap.size + 1, 1, none⟩)) rfl (by kernel_rfl) (by kernel_rfl) (by kernel_rfl) (fun _ _ _ h => h) (Or.inl ⟨by rfl, fun W hW => (by go_simp)⟩) (by assumption) ?_
  simp only [Act.put, List.setIfInBounds_toArray, List.set_cons_zero, List.set_cons_succ]
  refine wpAnyH_take (i := 17) (oi := ⟨some 61, _, _, _, _, _⟩) (v := .slice A n c) rfl (by kernel_rfl) (by kernel_rfl) (by kernel_rfl) (fun _ _ _ h => h) (Or.inl ⟨by rfl, fun W hW => (by have s := HQC.out W hW.1; go_simp)⟩) (by assumption) ?_
  simp only [Act.put, List.setIfInBounds_toArray, List.set_cons_zero, List.set_cons_succ]
  refine wpAnyH_take (i := 18) (oi := ⟨some 62, _, _, _, _, _⟩) (v := .string (bytesOf n z)) rfl (by kernel_rfl) (by kernel_rfl) (by kernel_rfl) (fun _ _ _ h => h) (Or.inl ⟨by rfl, fun W hW => (by have s := STA.out W hW.1; go_simp)⟩) (by assumption) ?_
  simp only [Act.put, List.setIfInBounds_toArray, List.set_cons_zero, List.set_cons_succ]
  refine wpAnyH_take (i := 19) (oi := ⟨some 63, _, _, _, _, _⟩) (v := .bool true) rfl (by kernel_rfl) (by kernel_rfl) (by kernel_rfl) (fun _ _ _ h => h) (Or.inl ⟨by rfl, fun W hW => (by go_simp)⟩) (by assumption) ?_
  simp only [Act.put, List.setIfInBounds_toArray, List.set_cons_zero, List.set_cons_succ]
  refine wpAnyH_take (i := 20) (oi := ⟨some 64, _, _, _, _, _⟩) (v := .bool true) rfl (by kernel_rfl) (by kernel_rfl) (by kernel_rfl) (fun _ _ _ h => h) (Or.inl ⟨by rfl, fun W hW => by rfl⟩) (by assumption) ?_
  simp only [Act.put, List.setIfInBounds_toArray, List.set_cons_zero, List.set_cons_succ]
  refine wpAnyH_take (i := 21) (oi := ⟨some 65, _, _, _, _, _⟩) (v := .bool true) rfl (by kernel_rfl) (by kernel_rfl) (by kernel_rfl) (fun _ _ _ h => h) (Or.inl ⟨by rfl, fun W hW => by rfl⟩) (by assumption) ?_
  simp only [Act.put, List.setIfInBounds_toArray, List.set_cons_zero, List.set_cons_succ]
  refine wpAnyH_take (i := 22) (oi := ⟨some 66, _, _, _, _, _⟩) (v := .pointer (some ⟨w.heap.size + 1, 1, none⟩)) rfl (by kernel_rfl) (by kernel_rfl) (by kernel_rfl) (fun _ _ _ h => h) (Or.inl ⟨by rfl, fun W hW => (by go_simp)⟩) (by assumption) ?_
  simp only [Act.put, List.setIfInBounds_toArray, List.set_cons_zero, List.set_cons_succ]
  refine wpAnyH_take (i := 23) (oi := ⟨some 67, _, _, _, _, _⟩) (v := .slice A n c) rfl (by kernel_rfl) (by kernel_rfl) (by kernel_rfl) (fun _ _ _ h => h) (Or.inl ⟨by rfl, fun W hW => (by have s := HQC.out W hW.1; go_simp)⟩) (by assumption) ?_
  simp only [Act.put, List.setIfInBounds_toArray, List.set_cons_zero, List.set_cons_succ]
  refine wpAnyH_take (i := 26) (oi := ⟨some 70, _, _, _, _, _⟩) (v := .int .i64 E) rfl (by kernel_rfl) (by kernel_rfl) (by kernel_rfl) (fun _ _ _ h => h) (Or.inl ⟨by rfl, fun W hW => by rfl⟩) (by assumption) ?_
  simp only [Act.put, List.setIfInBounds_toArray, List.set_cons_zero, List.set_cons_succ]
  refine wpAnyH_ready (rs := [24]) (by kernel_rfl) (by simp) ?_
  refine AllReadyH.cons (o := ⟨some 68, _, _, _, _, _⟩) rfl (fun K hK => ?_) AllReadyH.nil
  go_simp
  refine (HCC.out _).mono ?_
  rintro e w6 ⟨rfl, rfl⟩
  dsimp only
  refine hK.out _ _ (by assumption) (fun hHeld => ?_)
  clear hK K
  refine wpAnyH_ready (rs := [25]) (by kernel_rfl) (by simp) ?_
  refine AllReadyH.cons (o := ⟨some 69, _, _, _, _, _⟩) rfl (fun K hK => ?_) AllReadyH.nil
  go_simp
  refine (num43_ok _ _).mono ?_
  rintro e w6 ⟨rfl, rfl⟩
  dsimp only
  refine hK.out _ _ (by assumption) (fun hHeld => ?_)
  clear hK K
  refine wpAnyH_take (i := 27) (oi := ⟨some 71, _, _, _, _, _⟩) (v := .bool true) rfl (by kernel_rfl) (by kernel_rfl) (by kernel_rfl) (fun _ _ _ h => h) (Or.inl ⟨by rfl, fun W hW => (by go_simp)⟩) (by assumption) ?_
  simp only [Act.put, List.setIfInBounds_toArray, List.set_cons_zero, List.set_cons_succ]
  refine wpAnyH_take (i := 28) (oi := ⟨some 72, _, _, _, _, _⟩) (v := .bool true) rfl (by kernel_rfl) (by kernel_rfl) (by kernel_rfl) (fun _ _ _ h => h) (Or.inl ⟨by rfl, fun W hW => by rfl⟩) (by assumption) ?_
  simp only [Act.put, List.setIfInBounds_toArray, List.set_cons_zero, List.set_cons_succ]
  refine wpAnyH_take (i := 29) (oi := ⟨some 6, _, _, _, _, _⟩) (v := .pointer (some ⟨g, 0, none⟩)) rfl (by kernel_rfl) (by kernel_rfl) (by kernel_rfl) (fun _ _ _ h => h) (Or.inl ⟨by rfl, fun W hW => by rfl⟩) (by assumption) ?_
  simp only [Act.put, List.setIfInBounds_toArray, List.set_cons_zero, List.set_cons_succ]
  refine wpAnyH_ready (rs := [30]) (by kernel_rfl) (by simp) ?_
  refine AllReadyH.cons (o := ⟨none, _, _, _, _, _⟩) rfl (fun K hK => ?_) AllReadyH.nil
  rw [if_pos (by rfl)]
  refine wp_store_mid _ _ _ rfl _ _ L2l.toArray rfl rfl (by have := hHeld.2; simpa [hl225] using this) (by simpa using hiz) (all_oneCell_toArray HO2l.out) ?_
  refine hK.out _ _ ⟨(hHeld.1).trans (grownBy_setCells ob _ 0 _), World.there_setCells hHeld.2 _ _ _⟩ (fun hHeld => ?_)
  clear hK K
  simp only [Act.put]
  refine wpAnyH_take (i := 31) (oi := ⟨some 8, _, _, _, _, _⟩) (v := .bool true) rfl (by kernel_rfl) (by kernel_rfl) (by kernel_rfl) (fun _ _ _ h => h) (Or.inl ⟨by rfl, fun W hW => by rfl⟩) (by assumption) ?_
  simp only [Act.put, List.setIfInBounds_toArray, List.set_cons_zero, List.set_cons_succ]
  refine wpAnyH_done (by kernel_rfl) ?_ _
  go_wp2
  have hge : g < w.heap.size := hgl
  have hob2 := HOB.out
  refine bodyPost_ret (v := .tuple #[.pointer (some ⟨g, 0, none⟩), .agg L2l.toArray, .bool true]) (results_tmp_cell_tmp (g := ob) (t := 70) (fr := (0, 0)) Try.results39 _ _ L2l.toArray _ rfl (Blk.setWhole O5b.out.drew L2l (by rw [HZS.out, hl225])) Try.underlying70 rfl (by simpa using hiz) _ _ rfl rfl) rfl ⟨g, S2, C2, T2, by rw [← HL2A.out, HL2.out], hHeld.1.blk K5.out (by omega), HAL.out, by omega, hT2b.2, .inl rfl, ?_⟩
  exact keep_own (H := ob) (n := 0) (c := 0) G5.out (show W5.grownBy _ (some ob) from hHeld.1) (by omega)
end Go.Proofs.Ytejadoadpgcpjaa
