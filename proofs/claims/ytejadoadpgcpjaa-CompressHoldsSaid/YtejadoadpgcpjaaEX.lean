/- header.Parse: what holds behind the fields, and the good end. -/
import Derived.Test.YtejadoadpgcpjaaEV
import Derived.StillTailTactics
import Derived.Deep.RegionHeld3
namespace Go.Proofs.Ytejadoadpgcpjaa
open Go.RowKit Go.Shelf

attribute [local go_sem] Oper.semAt_some

def fieldv (z : Nat → Int) (k : Nat) : Nat := getv z (0 + so pwd k) (pwd k)
def gpart (z : Nat → Int) (k j : Nat) : Int := if j + 1 < k then ((fieldv z (j + 1) : Nat) : Int) else 0
def GoodEnd (w : World) (n : Nat) (z : Nat → Int) (e : Ending) (w' : World) : Prop :=
  ∃ P c, e = .returned (.tuple #[.agg (hdr (gpart z 10)), .slice P (n - 20 : Nat) c, .int .i64 0]) ∧ n - 20 ≤ c ∧ w'.ownsRow w.heap.size 5 1 (.slice P (n - 20 : Nat) c) (n - 20) ((List.range (n - 20)).map (fun j => .int .u8 (z (20 + j)))) ∧ Below w.heap.size w w'
def RestEnd (w : World) (n : Nat) (z : Nat → Int) (e : Ending) (w' : World) : Prop :=
  (fieldv z 9 = n → GoodEnd w n z e w') ∧ (fieldv z 9 ≠ n → BadEnd w 9 e w')

/-- what stays but the blocks H and f -/
structure Keep2 (H f : Nat) (w w' : World) : Prop where
  os : w'.os = w.os
  tape : w'.tape = w.tape
  output : w'.output = w.output
  size : w.heap.size ≤ w'.heap.size
  block : ∀ i, i < w.heap.size → i ≠ H → i ≠ f → w'.heap[i]? = w.heap[i]?
theorem Keep2.refl (H f : Nat) (w : World) : Keep2 H f w w := ⟨rfl, rfl, rfl, Nat.le_refl _, fun _ _ _ _ => rfl⟩
theorem Keep2.alloc {H f : Nat} {w w' : World} (h : Keep2 H f w w') (o : Obj) : Keep2 H f w (w'.alloc o) :=
  ⟨h.os, h.tape, h.output, by have := h.size; simp; omega, fun i hi h1 h2 => (Below.heap_alloc _ _ _ (by have := h.size; omega)).trans (h.block i hi h1 h2)⟩
theorem Keep2.drew {H f : Nat} {w w' : World} (h : Keep2 H f w w') : Keep2 H f w w'.drew := ⟨h.os, h.tape, h.output, h.size, h.block⟩
theorem Keep2.set_ {H f : Nat} {w w' : World} (h : Keep2 H f w w') (p : Addr) (hp : p.block = H ∨ p.block = f) (u : Value) : Keep2 H f w (w'.setCell p u) :=
  ⟨h.os, h.tape, h.output, by simpa using h.size, fun i hi h1 h2 => (Below.heap_setCell _ _ _ _ (by rcases hp with e | e <;> omega)).trans (h.block i hi h1 h2)⟩
theorem Keep2.below {H f b : Nat} {w0 w w' : World} (h : Keep2 H f w w') (hb : Below b w0 w) (h1 : b ≤ H) (h2 : b ≤ f) (hs : b ≤ w.heap.size) : Below b w0 w' :=
  ⟨h.os.trans hb.os, h.tape.trans hb.tape, h.output.trans hb.output, Nat.le_trans hb.size h.size, fun i hi => (h.block i (by omega) (by omega) (by omega)).trans (hb.block i hi)⟩
theorem Keep2.blk {H f g : Nat} {t : TypeId} {cs : Array Value} {w w' : World} (h : Keep2 H f w w') (hB : Blk w g t cs) (h1 : g ≠ H) (h2 : g ≠ f) : Blk w' g t cs := (h.block g hB.lt h1 h2).trans hB
theorem Keep2.cell {H f : Nat} {w w' : World} (h : Keep2 H f w w') {p : Addr} (hp : p.block < w.heap.size) (h1 : p.block ≠ H) (h2 : p.block ≠ f) : w'.cell? p = w.cell? p := World.cell?_of_block (w := w) (h.block p.block hp h1 h2)

theorem setCell_same {w : World} {g : Nat} {t : TypeId} {cs : Array Value} {i : Nat} {u : Value} (h : Blk w g t cs) (hi : cs[i]? = some u) : w.setCell ⟨g, i, none⟩ u = w := by
  have hs := h.set_ i u
  have e : cs.setIfInBounds i u = cs := by
    apply Array.ext_getElem?
    intro k
    rw [Array.getElem?_setIfInBounds]
    by_cases hk : i = k
    · subst hk
      have hlt : i < cs.size := by
        rcases Nat.lt_or_ge i cs.size with h1 | h1
        · exact h1
        · rw [Array.getElem?_eq_none h1] at hi; cases hi
      simp [hlt] at hi ⊢
      exact hi.symm
    · simp [hk]
  have hh : (w.setCell ⟨g, i, none⟩ u).heap = w.heap := by
    apply Array.ext_getElem?
    intro k
    by_cases hk : k = g
    · subst hk; rw [e] at hs; exact hs.trans h.symm
    · exact Below.heap_setCell w _ u k hk
  have h2 : w.setCell ⟨g, i, none⟩ u = { w with heap := (w.setCell ⟨g, i, none⟩ u).heap } := rfl
  rw [h2, hh]
theorem slice20 (lb lo n c : Nat) (h20 : 20 ≤ n) (hnc : n ≤ c) : ∃ lo2, (∀ w, (Instr.slice 22 (.slice (some ⟨lb, lo, none⟩) n c) (some (.int .i64 20)) (some (.int .i64 (n : Int))) (some (.int .i64 (n : Int)))).run Try.prog w = .ok (.slice (some ⟨lb, lo2, none⟩) (n - 20) (n - 20)) w) ∧ (20 < n → lo2 = lo + 20) := by
  have hm0 : (20 : Int) ≤ (n : Int) := by omega
  have hm1 : (n : Int) ≤ (c : Int) := by omega
  by_cases hc : n = 20
  · subst hc
    have h1 : ¬ ((c : Int) < 20) := by omega
    exact ⟨lo, fun w => by simp [go_sem, h1], fun h => by omega⟩
  · exact ⟨lo + 20, fun w => by simp [go_sem, hm0, hm1, hc], fun _ => rfl⟩

set_option maxRecDepth 100000 in
set_option maxHeartbeats 1000000 in
theorem good_leaves (R : Ending → World → Prop) (W : World) (h : Nat → Int) (P : Option Addr) (m k H : Nat) (tmps : Array Value) (hH : Blk W H 25 (hdr h)) (hP : Blk W (H + 1) 22 #[.slice P m k]) (hE : Blk W (H + 1 + 1) 26 #[.int .i64 0]) (hR : R (.returned (.tuple #[.agg (hdr h), .slice P m k, .int .i64 0])) W)
    (h2 : tmps.getD 2 undef = .pointer (some ⟨H, 0, none⟩)) (h3 : tmps.getD 3 undef = .pointer (some ⟨H + 1, 0, none⟩)) (h4 : tmps.getD 4 undef = .pointer (some ⟨H + 1 + 1, 0, none⟩)) :
    bodyPostD Try.prog Try.f16 R Exit.ret
      { tmps := tmps, defers := [{ target := .fn (.func 47) #[], args := #[.pointer (some ⟨H + 1 + 1, 0, none⟩), .func (.func 48) #[] #[.pointer (some ⟨H, 0, none⟩), .pointer (some ⟨H + 1, 0, none⟩)]] }] } W := by
  refine leaves_cons (f := 47) (args := #[.pointer (some ⟨H + 1 + 1, 0, none⟩), .func (.func 48) #[] #[.pointer (some ⟨H, 0, none⟩), .pointer (some ⟨H + 1, 0, none⟩)]]) (by simp) (by simp [go_sem]) ?_
  refine (caught_idle _ _ W).mono ?_
  rintro en u' w'' ⟨rfl, rfl, hw⟩
  subst hw
  have y0 : w''.cell? ⟨H, 0, none⟩ = some (.int .i64 (h 0)) := hH.cell 0
  have y1 : w''.cell? ⟨H, 1, none⟩ = some (.int .i64 (h 1)) := hH.cell 1
  have y2 : w''.cell? ⟨H, 2, none⟩ = some (.int .i64 (h 2)) := hH.cell 2
  have y3 : w''.cell? ⟨H, 3, none⟩ = some (.int .i64 (h 3)) := hH.cell 3
  have y4 : w''.cell? ⟨H, 4, none⟩ = some (.int .i64 (h 4)) := hH.cell 4
  have y5 : w''.cell? ⟨H, 5, none⟩ = some (.int .i64 (h 5)) := hH.cell 5
  have y6 : w''.cell? ⟨H, 6, none⟩ = some (.int .i64 (h 6)) := hH.cell 6
  have y7 : w''.cell? ⟨H, 7, none⟩ = some (.int .i64 (h 7)) := hH.cell 7
  have y8 : w''.cell? ⟨H, 8, none⟩ = some (.int .i64 (h 8)) := hH.cell 8
  have yp : w''.cell? ⟨H + 1, 0, none⟩ = some (.slice P m k) := hP.cell 0
  have ye : w''.cell? ⟨H + 1 + 1, 0, none⟩ = some (.int .i64 0) := hE.cell 0
  have HR := Lib.hid hR
  clear hH hP hE hR
  simp at h2 h3 h4
  simp [Leaves, settle, results, Try.results16, go_sem, h2, h3, h4, y0, y1, y2, y3, y4, y5, y6, y7, y8, yp, ye]
  exact HR.out

/-- what holds within the last statement -/
structure St (w : World) (A : Option Addr) (n : Nat) (z : Nat → Int) (W : World) : Prop where
  hdr : Blk W w.heap.size 25 (hdr (gpart z 10))
  pay : ∃ v, Blk W (w.heap.size + 1) 22 #[v]
  err : Blk W (w.heap.size + 1 + 1) 26 #[.int .i64 0]
  row : Row W w.heap.size A n (fun j => .int .u8 (z j))
  below : Below w.heap.size w W
theorem St.setH {w W : World} {A : Option Addr} {n : Nat} {z : Nat → Int} (h : St w A n z W) (k : Nat) (hk : k < 9) {u : Value} (hu : u = .int .i64 (gpart z 10 k)) : W.setCell ⟨w.heap.size, k, none⟩ u = W :=
  setCell_same h.hdr (by rw [hdr_at _ k hk, hu])
theorem St.setE {w W : World} {A : Option Addr} {n : Nat} {z : Nat → Int} (h : St w A n z W) : W.setCell ⟨w.heap.size + 1 + 1, 0, none⟩ (.int .i64 0) = W :=
  setCell_same h.err rfl
theorem St.setP {w W : World} {A : Option Addr} {n : Nat} {z : Nat → Int} (h : St w A n z W) (v : Value) : St w A n z (W.setCell ⟨w.heap.size + 1, 0, none⟩ v) :=
  ⟨h.hdr.far (by simp) _, by obtain ⟨u, hu⟩ := h.pay; exact ⟨_, hu.set_ 0 v⟩, h.err.far (by simp) _, h.row.setCell (by simp) _, h.below.setCell (by simp) _⟩
theorem St.paid {w W : World} {A : Option Addr} {n : Nat} {z : Nat → Int} (h : St w A n z W) (v : Value) : Blk (W.setCell ⟨w.heap.size + 1, 0, none⟩ v) (w.heap.size + 1) 22 #[v] := by
  obtain ⟨u, hu⟩ := h.pay
  exact hu.set_ 0 v
theorem St.clone {w W W1 : World} {A : Option Addr} {n : Nat} {z : Nat → Int} (h : St w A n z W) (hb : Below W.heap.size W W1) : St w A n z W1 := by
  have l1 := h.err.lt
  obtain ⟨u, hu⟩ := h.pay
  exact ⟨h.hdr.below hb (by omega), ⟨u, hu.below hb hu.lt⟩, h.err.below hb l1, h.row.below (hb.mono (by omega)), h.below.trans (hb.mono (by omega))⟩
theorem St.rules {w W : World} {A : Option Addr} {n : Nat} {z : Nat → Int} (h : St w A n z W) :
    (∃ v, W.cell? ⟨w.heap.size + 1, 0, none⟩ = some v) ∧
    W.cell? ⟨w.heap.size, 0, none⟩ = some (.int .i64 (gpart z 10 0)) ∧
    W.cell? ⟨w.heap.size, 1, none⟩ = some (.int .i64 (gpart z 10 1)) ∧
    W.cell? ⟨w.heap.size, 2, none⟩ = some (.int .i64 (gpart z 10 2)) ∧
    W.cell? ⟨w.heap.size, 3, none⟩ = some (.int .i64 (gpart z 10 3)) ∧
    W.cell? ⟨w.heap.size, 4, none⟩ = some (.int .i64 (gpart z 10 4)) ∧
    W.cell? ⟨w.heap.size, 5, none⟩ = some (.int .i64 (gpart z 10 5)) ∧
    W.cell? ⟨w.heap.size, 6, none⟩ = some (.int .i64 (gpart z 10 6)) ∧
    W.cell? ⟨w.heap.size, 7, none⟩ = some (.int .i64 (gpart z 10 7)) ∧
    W.cell? ⟨w.heap.size, 8, none⟩ = some (.int .i64 (gpart z 10 8)) ∧
    W.frozen? ⟨w.heap.size, 0, none⟩ = false ∧
    W.frozen? ⟨w.heap.size, 1, none⟩ = false ∧
    W.frozen? ⟨w.heap.size, 2, none⟩ = false ∧
    W.frozen? ⟨w.heap.size, 3, none⟩ = false ∧
    W.frozen? ⟨w.heap.size, 4, none⟩ = false ∧
    W.frozen? ⟨w.heap.size, 5, none⟩ = false ∧
    W.frozen? ⟨w.heap.size, 6, none⟩ = false ∧
    W.frozen? ⟨w.heap.size, 7, none⟩ = false ∧
    W.frozen? ⟨w.heap.size, 8, none⟩ = false ∧
    W.frozen? ⟨w.heap.size + 1, 0, none⟩ = false ∧
    W.cell? ⟨w.heap.size + 1 + 1, 0, none⟩ = some (.int .i64 0) ∧
    W.frozen? ⟨w.heap.size + 1 + 1, 0, none⟩ = false ∧
    W.setCell ⟨w.heap.size, 0, none⟩ (.int .i64 (gpart z 10 0)) = W ∧
    W.setCell ⟨w.heap.size, 1, none⟩ (.int .i64 (gpart z 10 1)) = W ∧
    W.setCell ⟨w.heap.size, 2, none⟩ (.int .i64 (gpart z 10 2)) = W ∧
    W.setCell ⟨w.heap.size, 3, none⟩ (.int .i64 (gpart z 10 3)) = W ∧
    W.setCell ⟨w.heap.size, 4, none⟩ (.int .i64 (gpart z 10 4)) = W ∧
    W.setCell ⟨w.heap.size, 5, none⟩ (.int .i64 (gpart z 10 5)) = W ∧
    W.setCell ⟨w.heap.size, 6, none⟩ (.int .i64 (gpart z 10 6)) = W ∧
    W.setCell ⟨w.heap.size, 7, none⟩ (.int .i64 (gpart z 10 7)) = W ∧
    W.setCell ⟨w.heap.size, 8, none⟩ (.int .i64 (gpart z 10 8)) = W ∧
    W.setCell ⟨w.heap.size + 1 + 1, 0, none⟩ (.int .i64 0) = W :=
  ⟨h.pay.elim (fun v hv => ⟨v, hv.cell 0⟩), h.hdr.cell 0, h.hdr.cell 1, h.hdr.cell 2, h.hdr.cell 3, h.hdr.cell 4, h.hdr.cell 5, h.hdr.cell 6, h.hdr.cell 7, h.hdr.cell 8, h.hdr.frozen 0, h.hdr.frozen 1, h.hdr.frozen 2, h.hdr.frozen 3, h.hdr.frozen 4, h.hdr.frozen 5, h.hdr.frozen 6, h.hdr.frozen 7, h.hdr.frozen 8, h.pay.elim (fun _ hv => hv.frozen 0), h.err.cell 0, h.err.frozen 0, h.setH 0 (by decide) rfl, h.setH 1 (by decide) rfl, h.setH 2 (by decide) rfl, h.setH 3 (by decide) rfl, h.setH 4 (by decide) rfl, h.setH 5 (by decide) rfl, h.setH 6 (by decide) rfl, h.setH 7 (by decide) rfl, h.setH 8 (by decide) rfl, h.setE⟩
/-- the payload as a row -/
def Pay (w : World) (n : Nat) (z : Nat → Int) (P : Option Addr) (c : Nat) (W : World) : Prop :=
  W.ownsRow (w.heap.size + 1 + 1 + 1) 5 1 (.slice P (n - 20 : Nat) c) (n - 20) ((List.range (n - 20)).map (fun j => .int .u8 (z (20 + j))))
theorem Pay.setP {w W : World} {n : Nat} {z : Nat → Int} {P : Option Addr} {c : Nat} (h : Pay w n z P c W) (v : Value) : Pay w n z P c (W.setCell ⟨w.heap.size + 1, 0, none⟩ v) :=
  h.kept (row := some (w.heap.size + 1)) ⟨rfl, rfl, rfl, by simp, fun k hk hne => Below.heap_setCell W _ _ k (fun e => hne (by rw [e]))⟩ (by
    rcases he : (Value.slice P (n - 20 : Nat) c).ownBlock with _ | k
    · exact .inl rfl
    · have := (h.lt k he).1
      exact .inr (by simp; omega))
theorem sub_row {w W : World} {n : Nat} {z : Nat → Int} {lb lo lo2 : Nat} (h : St w (some ⟨lb, lo, none⟩) n z W) (hl : 20 < n → lo2 = lo + 20) (hs : w.heap.size ≤ W.heap.size) : Row W W.heap.size (some ⟨lb, lo2, none⟩) (n - 20) (fun j => .int .u8 (z (20 + j))) := fun hn => by
  obtain ⟨b, off, e, hb, hc⟩ := h.row (by omega)
  cases e
  have := hl (by omega)
  subst this
  exact ⟨lb, lo + 20, rfl, by omega, fun j hj => by rw [show lo + 20 + j = lo + (20 + j) by omega]; exact hc (20 + j) (by omega)⟩
def CloneEnd (w : World) (n : Nat) (z : Nat → Int) (W : World) (e : Ending) (W1 : World) : Prop :=
  ∃ P c, e = .returned (.slice P (n - 20 : Nat) c) ∧ n - 20 ≤ c ∧ Pay w n z P c W1 ∧ Below W.heap.size W W1
theorem clone_pay (w W : World) (lb lo lo2 n : Nat) (z : Nat → Int) (hm : n ≤ 9000) (h : St w (some ⟨lb, lo, none⟩) n z W) (hl : 20 < n → lo2 = lo + 20) :
    Calls Try.prog 54 #[.slice (some ⟨lb, lo2, none⟩) (n - 20 : Nat) (n - 20 : Nat)] W (CloneEnd w n z W) := by
  have hlt := h.err.lt
  refine (clone_own (some ⟨lb, lo2, none⟩) (n - 20) (n - 20) (fun j => z (20 + j)) W (by omega) (sub_row h hl (by omega))).mono ?_
  rintro e w' ⟨P, c, rfl, hc, ho, hb⟩
  exact ⟨P, c, rfl, hc, ownsRow_mono ho (by omega), hb⟩
end Go.Proofs.Ytejadoadpgcpjaa
