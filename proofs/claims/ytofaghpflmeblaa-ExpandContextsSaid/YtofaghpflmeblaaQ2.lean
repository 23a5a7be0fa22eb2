/- header.Parse: the walk to the cut behind the fields. header.Parse: what holds behind the fields, and the good end. The header's plain mathematics: the fields of a built packet are the header's, and a packet that was taken apart is built again from its fields. header.Parse: from the version on. header.Parse: too long a packet. header.Parse, all ends in one contract; the example's numbers. The example of chapter 42 works. A packet header by value among a law's arguments. header.Static, header.Join; the walk of HeaderJoins. The walk of HeaderBuilds. The reference of chapter 42: Parse. The walk of HeaderBounds. The walk of HeaderParses. The walk of HeaderHolds. -/
import Derived.Test.YtofaghpflmeblaaQ1
import Derived.Deep.RegionWith
import Derived.Deep.DeepCutAuto
import Derived.Deep.CutRange
import Derived.Deep.CutBlock
import Derived.StillTailTactics
import Derived.Deep.RegionHeld3
import Derived.Laws.StructEq
import Derived.ProofKit
import Derived.OpenShut
import Derived.ChangeOld
import Derived.Deep.Fields
import Derived.Deep.DrawnRows
import Derived.Deep.OwnRows
namespace Go.Proofs.Ytofaghpflmeblaa
open Go.RowKit Go.Shelf

attribute [local go_sem] Oper.semAt_some

private theorem three_new_EV (w : World) : ∀ W, W = ((w.alloc (.cells #[.int .i64 0, .int .i64 0, .int .i64 0, .int .i64 0, .int .i64 0, .int .i64 0, .int .i64 0, .int .i64 0, .int .i64 0] 36)).alloc (.cells #[.slice none 0 0] 24)).alloc (.cells #[.int .i64 0] 28) →
    Blk W w.heap.size 36 (hdr (fun _ => 0)) ∧ Blk W (w.heap.size + 1) 24 #[.slice none 0 0] ∧ Blk W (w.heap.size + 1 + 1) 28 #[.int .i64 0] ∧ Below w.heap.size w W ∧ W.heap.size = w.heap.size + 1 + 1 + 1 := by
  rintro W rfl
  refine ⟨((Blk.new w 36 (hdr (fun _ => 0))).alloc _).alloc _, ?_, ?_, (((Below.refl _ w).alloc (Nat.le_refl _) _).alloc (by simp) _).alloc (by simp; omega) _, by simp⟩
  · have := (Blk.new (w.alloc (.cells (hdr (fun _ => 0)) 36)) 24 #[.slice none 0 0])
    rw [World.size_alloc] at this
    exact this.alloc _
  · have := (Blk.new ((w.alloc (.cells (hdr (fun _ => 0)) 36)).alloc (.cells #[.slice none 0 0] 24)) 28 #[.int .i64 0])
    rw [World.size_alloc, World.size_alloc] at this
    exact this

def Mid (w : World) (A : Option Addr) (n : Nat) (z : Nat → Int) (l : Value) (W : World) : Prop :=
  ∃ B c, l = .slice B 10 c ∧ Row W W.heap.size B 10 (fun j => .int .u64 ((getv z (0 + so pwd j) (pwd j) : Nat) : Int)) ∧ Row W w.heap.size A n (fun j => .int .u8 (z j)) ∧
    Blk W w.heap.size 36 (hdr (fun _ => 0)) ∧ Blk W (w.heap.size + 1) 24 #[.slice none 0 0] ∧ Blk W (w.heap.size + 1 + 1) 28 #[.int .i64 0] ∧ Below w.heap.size w W ∧ w.heap.size + 1 + 1 + 1 ≤ W.heap.size

theorem undrew {w w3 : World} (h : Below w.drew.heap.size w.drew w3) : Below w.heap.size w w3 := ⟨h.os, h.tape, h.output, h.size, h.block⟩
theorem c5_ok {w1 w3 : World} {v : Value} {t : TypeId} (h : Below (w1.alloc (.cells #[v] t)).heap.size (w1.alloc (.cells #[v] t)) w3) : w3.cell? ⟨w1.heap.size, 0, none⟩ = some v :=
  (Blk.below (Blk.new w1 t #[v]) h (by simp)).cell 0
theorem widths_new (w1 : World) (v : Value) (t : TypeId) : Calls Try.prog 67 #[] (w1.alloc (.cells #[v] t)).drew fun e w3 =>
    ∃ L c, e = .returned (.slice L 10 c) ∧ Row w3 w3.heap.size L 10 (fun j => .int .i64 (pwd j : Nat)) ∧ Fresh (w1.heap.size + 1) L ∧ Below (w1.alloc (.cells #[v] t)).heap.size (w1.alloc (.cells #[v] t)) w3 ∧ w3.cell? ⟨w1.heap.size, 0, none⟩ = some v := by
  refine (widths_ok _).mono ?_
  rintro e w3 ⟨L, c, rfl, hL, hf, hb⟩
  exact ⟨L, c, rfl, hL, (by simpa using hf), undrew hb, c5_ok (undrew hb)⟩
@[reducible] def onlyNormal (K : Act → World → Prop) : Exit → Act → World → Prop
  | .normal, a, w => K a w
  | _, _, _ => False
theorem wp_onlyNormal {P : Program} {c : Code} {K : Act → World → Prop} {Q : Exit → Act → World → Prop} {a : Act} {w : World} (h : c.wp P (onlyNormal K) a w) : c.wp P (Exit.then K Q) a w :=
  wp_mono h (by
    intro e a w h
    cases e with
    | normal => exact h
    | _ => exact h.elim)
theorem RS.new {w : World} {g : Nat} {A : Option Addr} {len cap p : Nat} {z : Nat → Int} (h : RS w g A len cap z p) (o : Obj) : RS (w.alloc o) g A len cap z p := ⟨h.1.alloc o, row_new h.2 o⟩
theorem RS.on {w w' : World} {g : Nat} {A : Option Addr} {len cap p : Nat} {z : Nat → Int} (h : RS w g A len cap z p) (hb : Below w.heap.size w w') : RS w' g A len cap z p := ⟨h.1.below hb h.1.lt, h.2.next hb⟩
theorem fresh_ne {base g : Nat} {L : Option Addr} (h : Fresh base L) (hg : g < base) : ∀ a, L = some a → a.block ≠ g := fun a e => by
  have := h a e
  omega
theorem mid_ok {w W w1 w3 w4 : World} {A B : Option Addr} {n cB g : Nat} {z : Nat → Int} {o : Obj} (hW : W = ((w.alloc (.cells #[.int .i64 0, .int .i64 0, .int .i64 0, .int .i64 0, .int .i64 0, .int .i64 0, .int .i64 0, .int .i64 0, .int .i64 0] 36)).alloc (.cells #[.slice none 0 0] 24)).alloc (.cells #[.int .i64 0] 28))
    (hb1 : Below W.heap.size W w1) (hg : W.heap.size ≤ g) (hs1 : w1.heap.size = g + 1) (hb3 : Below (w1.alloc o).heap.size (w1.alloc o) w3) (hR : Row w4 w4.heap.size B 10 (fun j => .int .u64 ((getv z (0 + so pwd j) (pwd j) : Nat) : Int))) (hgr : w3.grownBy w4 (some g)) (hr : Row w w.heap.size A n (fun j => .int .u8 (z j))) : Mid w A n z (.slice B 10 cB) w4 := by
  obtain ⟨t1, t2, t3, t4, t5⟩ := three_new_EV w W hW
  have s3 := hb3.size
  rw [World.size_alloc] at s3
  have Bel : Below W.heap.size W w4 := ((hb1.alloc hb1.size o).trans (hb3.mono (by have := hb1.size; simp; omega))).grown hgr (by omega) (fun k e => by cases e; exact hg)
  have s4 := Bel.size
  exact ⟨B, cB, rfl, hR, hr.below (t4.trans (Bel.mono (by omega))), t1.below Bel (by omega), t2.below Bel (by omega), t3.below Bel (by omega), t4.trans (Bel.mono (by omega)), by omega⟩

set_option maxRecDepth 100000 in
set_option maxHeartbeats 1000000 in
theorem parse_version (A : Option Addr) (n c : Nat) (z : Nat → Int) (hn : 20 ≤ n) (hm : n ≤ 9000) (hz : ∀ j, j < n → 0 ≤ z j ∧ z j < 256) (hv : getv z 0 4 ≠ 5) (w : World) (hr : Row w w.heap.size A n (fun j => .int .u8 (z j))) :
    Calls Try.prog 42 #[.slice A n c] w (BadEnd w 9) := by
  have hmf : ∀ (fn : Fn) (first cap : Array Value) (w : World), (Instr.makeFunc fn first cap).run Try.prog w = .ok (.func fn first cap) w := fun _ _ _ _ => rfl
  have hn20 : (20 ≤ (n : Int)) := by omega
  have hn9 : ((n : Int) ≤ 9000) := by omega
  have HR := Lib.hid hr
  have HZ := Lib.hid hz
  clear hr hz
  go_enter_defers Try.func42, Try.ntmps42
  go_upto_region 5 with (first | (go_at_call 64; refine (must_true _ _).mono ?_; rintro e w1 ⟨rfl, rfl⟩) | (go_at_call 65; refine (newReader_ok A n c z (by omega) _ (by exact row_new (row_new (row_new HR.out _) _) _)).mono ?_; rintro e w1 ⟨g, A2, c2, rfl, hg, hRS, hA2, hb1, hs1⟩; have HRS := Lib.hid hRS; have HA2 := Lib.hid hA2; have HB1 := Lib.hid hb1; have HS1 := Lib.hid hs1; clear hRS hA2 hb1 hs1))
  go_cut [6] from 21 to 23 (fun l wx => Mid w A n z l wx)
  case first =>
    refine wp_onlyNormal ?_
    go_region_with (first | (go_at_call 67; refine (widths_new _ _ _).mono ?_; rintro e w3 ⟨L, lc, rfl, hL, hLf, hb3, c5⟩; have HL := Lib.hid hL; have HLF := Lib.hid hLf; have HB3 := Lib.hid hb3; clear hL hLf hb3) | (go_at_call 66; refine (all_ok g A2 L n c2 lc z (by omega) hn HZ.out (fresh_ne HLF.out (by rw [HS1.out]; omega)) HA2.out _ ((RS.new HRS.out _).on HB3.out) HL.out).mono ?_; rintro e w4 ⟨B, cB, rfl, hR4, hg4⟩; have HR4 := Lib.hid hR4; have HG4 := Lib.hid hg4; clear hR4 hg4))
    all_goals (dsimp only [onlyNormal]; go_wp2; go_meet; exact mid_ok rfl HB1.out (by simpa using hg) HS1.out HB3.out HR4.out HG4.out HR.out)
  case rest =>
    obtain ⟨B, cB, rfl, hR, hrA, hbH, hbP, hbE, hbel, hsz⟩ := hcut
    obtain ⟨b, off, rfl, hbb, hcl⟩ := hR (by decide)
    have cl0 : wc.cell? ⟨b, off, none⟩ = some (.int .u64 ((getv z 0 4 : Nat) : Int)) := hcl 0 (by decide)
    obtain ⟨F, hF⟩ : ∃ F, F = getv z 0 4 := ⟨_, rfl⟩
    rw [← hF] at cl0 hv
    have hv1 : ¬ ((F : Int) = 5) := by omega
    have hv2 : ((F : Int) == 5) = false := by simp; omega
    have hv3 : decide ((F : Int) = 5) = false := by simp; omega
    have HBH := Lib.hid hbH
    have HBP := Lib.hid hbP
    have HBE := Lib.hid hbE
    have HBL := Lib.hid hbel
    clear hR hrA hbH hbP hbE hbel hsz hcl hF hbb
    go_wp2_with (go_at_call 64; refine (must_false 9 _).mono ?_; rintro e w1 ⟨rfl, rfl⟩)
    exact bad_leaves w _ (fun _ => 0) (.slice none 0 0) 0 9 w.heap.size _ rfl HBH.out HBP.out HBE.out HBL.out rfl rfl rfl
end Go.Proofs.Ytofaghpflmeblaa
namespace Go.Proofs.Ytofaghpflmeblaa
open Go.RowKit Go.Shelf

attribute [local go_sem] Oper.semAt_some

def fieldv (z : Nat → Int) (k : Nat) : Nat := getv z (0 + so pwd k) (pwd k)
def gpart (z : Nat → Int) (k j : Nat) : Int := if j + 1 < k then ((fieldv z (j + 1) : Nat) : Int) else 0
def GoodEnd (w : World) (n : Nat) (z : Nat → Int) (e : Ending) (w' : World) : Prop :=
  ∃ P c, e = .returned (.tuple #[.agg (hdr (gpart z 10)), .slice P (n - 20 : Nat) c, .int .i64 0]) ∧ n - 20 ≤ c ∧ w'.ownsRow w.heap.size 5 1 (.slice P (n - 20 : Nat) c) (n - 20) ((List.range (n - 20)).map (fun j => .int .u8 (z (20 + j)))) ∧ Below w.heap.size w w'
def RestEnd (w : World) (n : Nat) (z : Nat → Int) (e : Ending) (w' : World) : Prop :=
  (fieldv z 9 = n → GoodEnd w n z e w') ∧ (fieldv z 9 ≠ n → BadEnd w 9 e w')

/-- what stays but the blocks H and f -/
structure Keep2 (H f : Nat) (w w' : World) : Prop where
  os : w'.os = w.os
  tape : w'.tape = w.tape
  output : w'.output = w.output
  size : w.heap.size ≤ w'.heap.size
  block : ∀ i, i < w.heap.size → i ≠ H → i ≠ f → w'.heap[i]? = w.heap[i]?
theorem Keep2.refl (H f : Nat) (w : World) : Keep2 H f w w := ⟨rfl, rfl, rfl, Nat.le_refl _, fun _ _ _ _ => rfl⟩
theorem Keep2.alloc {H f : Nat} {w w' : World} (h : Keep2 H f w w') (o : Obj) : Keep2 H f w (w'.alloc o) :=
  ⟨h.os, h.tape, h.output, by have := h.size; simp; omega, fun i hi h1 h2 => (Below.heap_alloc _ _ _ (by have := h.size; omega)).trans (h.block i hi h1 h2)⟩
theorem Keep2.drew {H f : Nat} {w w' : World} (h : Keep2 H f w w') : Keep2 H f w w'.drew := ⟨h.os, h.tape, h.output, h.size, h.block⟩
theorem Keep2.set_ {H f : Nat} {w w' : World} (h : Keep2 H f w w') (p : Addr) (hp : p.block = H ∨ p.block = f) (u : Value) : Keep2 H f w (w'.setCell p u) :=
  ⟨h.os, h.tape, h.output, by simpa using h.size, fun i hi h1 h2 => (Below.heap_setCell _ _ _ _ (by rcases hp with e | e <;> omega)).trans (h.block i hi h1 h2)⟩
theorem Keep2.below {H f b : Nat} {w0 w w' : World} (h : Keep2 H f w w') (hb : Below b w0 w) (h1 : b ≤ H) (h2 : b ≤ f) (hs : b ≤ w.heap.size) : Below b w0 w' :=
  ⟨h.os.trans hb.os, h.tape.trans hb.tape, h.output.trans hb.output, Nat.le_trans hb.size h.size, fun i hi => (h.block i (by omega) (by omega) (by omega)).trans (hb.block i hi)⟩
theorem Keep2.blk {H f g : Nat} {t : TypeId} {cs : Array Value} {w w' : World} (h : Keep2 H f w w') (hB : Blk w g t cs) (h1 : g ≠ H) (h2 : g ≠ f) : Blk w' g t cs := (h.block g hB.lt h1 h2).trans hB
theorem Keep2.cell {H f : Nat} {w w' : World} (h : Keep2 H f w w') {p : Addr} (hp : p.block < w.heap.size) (h1 : p.block ≠ H) (h2 : p.block ≠ f) : w'.cell? p = w.cell? p := World.cell?_of_block (w := w) (h.block p.block hp h1 h2)

theorem setCell_same {w : World} {g : Nat} {t : TypeId} {cs : Array Value} {i : Nat} {u : Value} (h : Blk w g t cs) (hi : cs[i]? = some u) : w.setCell ⟨g, i, none⟩ u = w := by
  have hs := h.set_ i u
  have e : cs.setIfInBounds i u = cs := by
    apply Array.ext_getElem?
    intro k
    rw [Array.getElem?_setIfInBounds]
    by_cases hk : i = k
    · subst hk
      have hlt : i < cs.size := by
        rcases Nat.lt_or_ge i cs.size with h1 | h1
        · exact h1
        · rw [Array.getElem?_eq_none h1] at hi; cases hi
      simp [hlt] at hi ⊢
      exact hi.symm
    · simp [hk]
  have hh : (w.setCell ⟨g, i, none⟩ u).heap = w.heap := by
    apply Array.ext_getElem?
    intro k
    by_cases hk : k = g
    · subst hk; rw [e] at hs; exact hs.trans h.symm
    · exact Below.heap_setCell w _ u k hk
  have h2 : w.setCell ⟨g, i, none⟩ u = { w with heap := (w.setCell ⟨g, i, none⟩ u).heap } := rfl
  rw [h2, hh]
theorem slice20 (lb lo n c : Nat) (h20 : 20 ≤ n) (hnc : n ≤ c) : ∃ lo2, (∀ w, (Instr.slice 24 (.slice (some ⟨lb, lo, none⟩) n c) (some (.int .i64 20)) (some (.int .i64 (n : Int))) (some (.int .i64 (n : Int)))).run Try.prog w = .ok (.slice (some ⟨lb, lo2, none⟩) (n - 20) (n - 20)) w) ∧ (20 < n → lo2 = lo + 20) := by
  have hm0 : (20 : Int) ≤ (n : Int) := by omega
  have hm1 : (n : Int) ≤ (c : Int) := by omega
  by_cases hc : n = 20
  · subst hc
    have h1 : ¬ ((c : Int) < 20) := by omega
    exact ⟨lo, fun w => by simp [go_sem, h1], fun h => by omega⟩
  · exact ⟨lo + 20, fun w => by simp [go_sem, hm0, hm1, hc], fun _ => rfl⟩

set_option maxRecDepth 100000 in
set_option maxHeartbeats 1000000 in
theorem good_leaves (R : Ending → World → Prop) (W : World) (h : Nat → Int) (P : Option Addr) (m k H : Nat) (tmps : Array Value) (hH : Blk W H 36 (hdr h)) (hP : Blk W (H + 1) 24 #[.slice P m k]) (hE : Blk W (H + 1 + 1) 28 #[.int .i64 0]) (hR : R (.returned (.tuple #[.agg (hdr h), .slice P m k, .int .i64 0])) W)
    (h2 : tmps.getD 2 undef = .pointer (some ⟨H, 0, none⟩)) (h3 : tmps.getD 3 undef = .pointer (some ⟨H + 1, 0, none⟩)) (h4 : tmps.getD 4 undef = .pointer (some ⟨H + 1 + 1, 0, none⟩)) :
    bodyPostD Try.prog Try.f42 R Exit.ret
      { tmps := tmps, defers := [{ target := .fn (.func 62) #[], args := #[.pointer (some ⟨H + 1 + 1, 0, none⟩), .func (.func 63) #[] #[.pointer (some ⟨H, 0, none⟩), .pointer (some ⟨H + 1, 0, none⟩)]] }] } W := by
  refine leaves_cons (f := 62) (args := #[.pointer (some ⟨H + 1 + 1, 0, none⟩), .func (.func 63) #[] #[.pointer (some ⟨H, 0, none⟩), .pointer (some ⟨H + 1, 0, none⟩)]]) (by simp) (by simp [go_sem]) ?_
  refine (caught_idle _ _ W).mono ?_
  rintro en u' w'' ⟨rfl, rfl, hw⟩
  subst hw
  have y0 : w''.cell? ⟨H, 0, none⟩ = some (.int .i64 (h 0)) := hH.cell 0
  have y1 : w''.cell? ⟨H, 1, none⟩ = some (.int .i64 (h 1)) := hH.cell 1
  have y2 : w''.cell? ⟨H, 2, none⟩ = some (.int .i64 (h 2)) := hH.cell 2
  have y3 : w''.cell? ⟨H, 3, none⟩ = some (.int .i64 (h 3)) := hH.cell 3
  have y4 : w''.cell? ⟨H, 4, none⟩ = some (.int .i64 (h 4)) := hH.cell 4
  have y5 : w''.cell? ⟨H, 5, none⟩ = some (.int .i64 (h 5)) := hH.cell 5
  have y6 : w''.cell? ⟨H, 6, none⟩ = some (.int .i64 (h 6)) := hH.cell 6
  have y7 : w''.cell? ⟨H, 7, none⟩ = some (.int .i64 (h 7)) := hH.cell 7
  have y8 : w''.cell? ⟨H, 8, none⟩ = some (.int .i64 (h 8)) := hH.cell 8
  have yp : w''.cell? ⟨H + 1, 0, none⟩ = some (.slice P m k) := hP.cell 0
  have ye : w''.cell? ⟨H + 1 + 1, 0, none⟩ = some (.int .i64 0) := hE.cell 0
  have HR := Lib.hid hR
  clear hH hP hE hR
  simp at h2 h3 h4
  simp [Leaves, settle, results, Try.results42, go_sem, h2, h3, h4, y0, y1, y2, y3, y4, y5, y6, y7, y8, yp, ye]
  exact HR.out

/-- what holds within the last statement -/
structure St (w : World) (A : Option Addr) (n : Nat) (z : Nat → Int) (W : World) : Prop where
  hdr : Blk W w.heap.size 36 (hdr (gpart z 10))
  pay : ∃ v, Blk W (w.heap.size + 1) 24 #[v]
  err : Blk W (w.heap.size + 1 + 1) 28 #[.int .i64 0]
  row : Row W w.heap.size A n (fun j => .int .u8 (z j))
  below : Below w.heap.size w W
theorem St.setH {w W : World} {A : Option Addr} {n : Nat} {z : Nat → Int} (h : St w A n z W) (k : Nat) (hk : k < 9) {u : Value} (hu : u = .int .i64 (gpart z 10 k)) : W.setCell ⟨w.heap.size, k, none⟩ u = W :=
  setCell_same h.hdr (by rw [hdr_at _ k hk, hu])
theorem St.setE {w W : World} {A : Option Addr} {n : Nat} {z : Nat → Int} (h : St w A n z W) : W.setCell ⟨w.heap.size + 1 + 1, 0, none⟩ (.int .i64 0) = W :=
  setCell_same h.err rfl
theorem St.setP {w W : World} {A : Option Addr} {n : Nat} {z : Nat → Int} (h : St w A n z W) (v : Value) : St w A n z (W.setCell ⟨w.heap.size + 1, 0, none⟩ v) :=
  ⟨h.hdr.far (by simp) _, by obtain ⟨u, hu⟩ := h.pay; exact ⟨_, hu.set_ 0 v⟩, h.err.far (by simp) _, h.row.setCell (by simp) _, h.below.setCell (by simp) _⟩
theorem St.paid {w W : World} {A : Option Addr} {n : Nat} {z : Nat → Int} (h : St w A n z W) (v : Value) : Blk (W.setCell ⟨w.heap.size + 1, 0, none⟩ v) (w.heap.size + 1) 24 #[v] := by
  obtain ⟨u, hu⟩ := h.pay
  exact hu.set_ 0 v
theorem St.clone {w W W1 : World} {A : Option Addr} {n : Nat} {z : Nat → Int} (h : St w A n z W) (hb : Below W.heap.size W W1) : St w A n z W1 := by
  have l1 := h.err.lt
  obtain ⟨u, hu⟩ := h.pay
  exact ⟨h.hdr.below hb (by omega), ⟨u, hu.below hb hu.lt⟩, h.err.below hb l1, h.row.below (hb.mono (by omega)), h.below.trans (hb.mono (by omega))⟩
theorem St.rules {w W : World} {A : Option Addr} {n : Nat} {z : Nat → Int} (h : St w A n z W) :
    (∃ v, W.cell? ⟨w.heap.size + 1, 0, none⟩ = some v) ∧
    W.cell? ⟨w.heap.size, 0, none⟩ = some (.int .i64 (gpart z 10 0)) ∧
    W.cell? ⟨w.heap.size, 1, none⟩ = some (.int .i64 (gpart z 10 1)) ∧
    W.cell? ⟨w.heap.size, 2, none⟩ = some (.int .i64 (gpart z 10 2)) ∧
    W.cell? ⟨w.heap.size, 3, none⟩ = some (.int .i64 (gpart z 10 3)) ∧
    W.cell? ⟨w.heap.size, 4, none⟩ = some (.int .i64 (gpart z 10 4)) ∧
    W.cell? ⟨w.heap.size, 5, none⟩ = some (.int .i64 (gpart z 10 5)) ∧
    W.cell? ⟨w.heap.size, 6, none⟩ = some (.int .i64 (gpart z 10 6)) ∧
    W.cell? ⟨w.heap.size, 7, none⟩ = some (.int .i64 (gpart z 10 7)) ∧
    W.cell? ⟨w.heap.size, 8, none⟩ = some (.int .i64 (gpart z 10 8)) ∧
    W.frozen? ⟨w.heap.size, 0, none⟩ = false ∧
    W.frozen? ⟨w.heap.size, 1, none⟩ = false ∧
    W.frozen? ⟨w.heap.size, 2, none⟩ = false ∧
    W.frozen? ⟨w.heap.size, 3, none⟩ = false ∧
    W.frozen? ⟨w.heap.size, 4, none⟩ = false ∧
    W.frozen? ⟨w.heap.size, 5, none⟩ = false ∧
    W.frozen? ⟨w.heap.size, 6, none⟩ = false ∧
    W.frozen? ⟨w.heap.size, 7, none⟩ = false ∧
    W.frozen? ⟨w.heap.size, 8, none⟩ = false ∧
    W.frozen? ⟨w.heap.size + 1, 0, none⟩ = false ∧
    W.cell? ⟨w.heap.size + 1 + 1, 0, none⟩ = some (.int .i64 0) ∧
    W.frozen? ⟨w.heap.size + 1 + 1, 0, none⟩ = false ∧
    W.setCell ⟨w.heap.size, 0, none⟩ (.int .i64 (gpart z 10 0)) = W ∧
    W.setCell ⟨w.heap.size, 1, none⟩ (.int .i64 (gpart z 10 1)) = W ∧
    W.setCell ⟨w.heap.size, 2, none⟩ (.int .i64 (gpart z 10 2)) = W ∧
    W.setCell ⟨w.heap.size, 3, none⟩ (.int .i64 (gpart z 10 3)) = W ∧
    W.setCell ⟨w.heap.size, 4, none⟩ (.int .i64 (gpart z 10 4)) = W ∧
    W.setCell ⟨w.heap.size, 5, none⟩ (.int .i64 (gpart z 10 5)) = W ∧
    W.setCell ⟨w.heap.size, 6, none⟩ (.int .i64 (gpart z 10 6)) = W ∧
    W.setCell ⟨w.heap.size, 7, none⟩ (.int .i64 (gpart z 10 7)) = W ∧
    W.setCell ⟨w.heap.size, 8, none⟩ (.int .i64 (gpart z 10 8)) = W ∧
    W.setCell ⟨w.heap.size + 1 + 1, 0, none⟩ (.int .i64 0) = W :=
  ⟨h.pay.elim (fun v hv => ⟨v, hv.cell 0⟩), h.hdr.cell 0, h.hdr.cell 1, h.hdr.cell 2, h.hdr.cell 3, h.hdr.cell 4, h.hdr.cell 5, h.hdr.cell 6, h.hdr.cell 7, h.hdr.cell 8, h.hdr.frozen 0, h.hdr.frozen 1, h.hdr.frozen 2, h.hdr.frozen 3, h.hdr.frozen 4, h.hdr.frozen 5, h.hdr.frozen 6, h.hdr.frozen 7, h.hdr.frozen 8, h.pay.elim (fun _ hv => hv.frozen 0), h.err.cell 0, h.err.frozen 0, h.setH 0 (by decide) rfl, h.setH 1 (by decide) rfl, h.setH 2 (by decide) rfl, h.setH 3 (by decide) rfl, h.setH 4 (by decide) rfl, h.setH 5 (by decide) rfl, h.setH 6 (by decide) rfl, h.setH 7 (by decide) rfl, h.setH 8 (by decide) rfl, h.setE⟩
/-- the payload as a row -/
def Pay (w : World) (n : Nat) (z : Nat → Int) (P : Option Addr) (c : Nat) (W : World) : Prop :=
  W.ownsRow (w.heap.size + 1 + 1 + 1) 5 1 (.slice P (n - 20 : Nat) c) (n - 20) ((List.range (n - 20)).map (fun j => .int .u8 (z (20 + j))))
theorem Pay.setP {w W : World} {n : Nat} {z : Nat → Int} {P : Option Addr} {c : Nat} (h : Pay w n z P c W) (v : Value) : Pay w n z P c (W.setCell ⟨w.heap.size + 1, 0, none⟩ v) :=
  h.kept (row := some (w.heap.size + 1)) ⟨rfl, rfl, rfl, by simp, fun k hk hne => Below.heap_setCell W _ _ k (fun e => hne (by rw [e]))⟩ (by
    rcases he : (Value.slice P (n - 20 : Nat) c).ownBlock with _ | k
    · exact .inl rfl
    · have := (h.lt k he).1
      exact .inr (by simp; omega))
theorem sub_row {w W : World} {n : Nat} {z : Nat → Int} {lb lo lo2 : Nat} (h : St w (some ⟨lb, lo, none⟩) n z W) (hl : 20 < n → lo2 = lo + 20) (hs : w.heap.size ≤ W.heap.size) : Row W W.heap.size (some ⟨lb, lo2, none⟩) (n - 20) (fun j => .int .u8 (z (20 + j))) := fun hn => by
  obtain ⟨b, off, e, hb, hc⟩ := h.row (by omega)
  cases e
  have := hl (by omega)
  subst this
  exact ⟨lb, lo + 20, rfl, by omega, fun j hj => by rw [show lo + 20 + j = lo + (20 + j) by omega]; exact hc (20 + j) (by omega)⟩
def CloneEnd (w : World) (n : Nat) (z : Nat → Int) (W : World) (e : Ending) (W1 : World) : Prop :=
  ∃ P c, e = .returned (.slice P (n - 20 : Nat) c) ∧ n - 20 ≤ c ∧ Pay w n z P c W1 ∧ Below W.heap.size W W1
theorem clone_pay (w W : World) (lb lo lo2 n : Nat) (z : Nat → Int) (hm : n ≤ 9000) (h : St w (some ⟨lb, lo, none⟩) n z W) (hl : 20 < n → lo2 = lo + 20) :
    Calls Try.prog 59 #[.slice (some ⟨lb, lo2, none⟩) (n - 20 : Nat) (n - 20 : Nat)] W (CloneEnd w n z W) := by
  have hlt := h.err.lt
  refine (clone_own (some ⟨lb, lo2, none⟩) (n - 20) (n - 20) (fun j => z (20 + j)) W (by omega) (sub_row h hl (by omega))).mono ?_
  rintro e w' ⟨P, c, rfl, hc, ho, hb⟩
  exact ⟨P, c, rfl, hc, ownsRow_mono ho (by omega), hb⟩
end Go.Proofs.Ytofaghpflmeblaa
namespace Go.Proofs.Ytofaghpflmeblaa
open Go.RowKit

theorem getv_bits (z : Nat → Int) (p width v : Nat) (hv : v < 2 ^ width) (hb : ∀ i, i < width → HM.hb z (p + i) = vbit v width i) : ∀ k, k ≤ width → getv z p k = v / 2 ^ (width - k)
  | 0, _ => by rw [Nat.sub_zero, Nat.div_eq_of_lt hv]; rfl
  | k + 1, hk => by
    unfold getv
    rw [getv_bits z p width v hv hb k (by omega), hb k (by omega)]
    unfold vbit
    rw [show width - 1 - k = width - (k + 1) by omega, show width - k = (width - (k + 1)) + 1 by omega, Nat.pow_succ, ← Nat.div_div_eq_div_mul]
    generalize v / 2 ^ (width - (k + 1)) = q
    by_cases h : q % 2 = 1
    · simp [h]; omega
    · simp [h]; omega

theorem getv_bit (z : Nat → Int) (p : Nat) : ∀ w i, i < w → vbit (getv z p w) w i = HM.hb z (p + i)
  | 0, i, h => absurd h (by omega)
  | w + 1, i, h => by
    unfold vbit getv
    by_cases hi : i = w
    · subst hi
      rw [show i + 1 - 1 - i = 0 by omega, Nat.pow_zero, Nat.div_one]
      cases HM.hb z (p + i)
      · simp
      · simp
    · have ih := getv_bit z p w i (by omega)
      unfold vbit at ih
      rw [← ih, show w + 1 - 1 - i = (w - 1 - i) + 1 by omega, Nat.pow_succ', ← Nat.div_div_eq_div_mul]
      congr 3
      split <;> omega

theorem so_offs : ∀ k, so pwd k = offs k
  | 0 => rfl
  | k + 1 => by show so pwd k + pwd k = offs k + pwd k; rw [so_offs k]

theorem place_at (t : Nat) (ht : t < 160) : ∃ k, k < 10 ∧ ∃ i, i < pwd k ∧ t = offs k + i := by
  have hc : t < 4 ∨ (4 ≤ t ∧ t < 8) ∨ (8 ≤ t ∧ t < 24) ∨ (24 ≤ t ∧ t < 56) ∨ (56 ≤ t ∧ t < 88) ∨ (88 ≤ t ∧ t < 96) ∨ (96 ≤ t ∧ t < 104) ∨ (104 ≤ t ∧ t < 120) ∨ (120 ≤ t ∧ t < 144) ∨ (144 ≤ t ∧ t < 160) := by omega
  rcases hc with h | h | h | h | h | h | h | h | h | h
  · exact ⟨0, by decide, t, by show t < 4; omega, by show t = 0 + t; omega⟩
  · exact ⟨1, by decide, t - 4, by show t - 4 < 4; omega, by show t = 4 + (t - 4); omega⟩
  · exact ⟨2, by decide, t - 8, by show t - 8 < 16; omega, by show t = 8 + (t - 8); omega⟩
  · exact ⟨3, by decide, t - 24, by show t - 24 < 32; omega, by show t = 24 + (t - 24); omega⟩
  · exact ⟨4, by decide, t - 56, by show t - 56 < 32; omega, by show t = 56 + (t - 56); omega⟩
  · exact ⟨5, by decide, t - 88, by show t - 88 < 8; omega, by show t = 88 + (t - 88); omega⟩
  · exact ⟨6, by decide, t - 96, by show t - 96 < 8; omega, by show t = 96 + (t - 96); omega⟩
  · exact ⟨7, by decide, t - 104, by show t - 104 < 16; omega, by show t = 104 + (t - 104); omega⟩
  · exact ⟨8, by decide, t - 120, by show t - 120 < 24; omega, by show t = 120 + (t - 120); omega⟩
  · exact ⟨9, by decide, t - 144, by show t - 144 < 16; omega, by show t = 144 + (t - 144); omega⟩
theorem place_lt (k i : Nat) (hk : k < 10) (hi : i < pwd k) : offs k + i < 160 := by
  have := offs_mono (k + 1) (9 - k)
  rw [show k + 1 + (9 - k) = 10 by omega] at this
  have h10 : offs 10 = 160 := by decide
  have h1 : offs (k + 1) = offs k + pwd k := rfl
  omega

theorem hb_pkt (h z : Nat → Int) (j : Nat) (hj : j < 160) : HM.hb (pktAt h z) j = hdrBits h j := by
  unfold HM.hb
  have e : pktAt h z (j / 8) = ((HM.pk (hdrBits h) 160 (j / 8) : Nat) : Int) := by unfold pktAt; rw [if_pos (by omega)]
  rw [e, Int.toNat_natCast, HM.bit_pk]
  cases hdrBits h j <;> simp [hj]

theorem field_back (h z : Nat → Int) (hw : anyWrong h = false) (k : Nat) (hk : k < 10) : ((fieldv (pktAt h z) k : Nat) : Int) = hval h k := by
  obtain ⟨h0, h1⟩ := anyWrong_false h hw k hk
  have e0 : ((hval h k).toNat : Int) = hval h k := Int.toNat_of_nonneg h0
  have hv : (hval h k).toNat < 2 ^ pwd k := by
    have h2 : (((2 ^ pwd k : Nat)) : Int) = 2 ^ pwd k := by simp
    omega
  have hb : ∀ i, i < pwd k → HM.hb (pktAt h z) (0 + so pwd k + i) = vbit (hval h k).toNat (pwd k) i := fun i hi => by
    rw [Nat.zero_add, so_offs, hb_pkt h z _ (place_lt k i hk hi)]
    exact hdrBits_at h k i hk hi
  have := getv_bits (pktAt h z) (0 + so pwd k) (pwd k) (hval h k).toNat hv hb (pwd k) (Nat.le_refl _)
  unfold fieldv
  rw [this, Nat.sub_self, Nat.pow_zero, Nat.div_one, e0]
theorem gpart_back (h z : Nat → Int) (hw : anyWrong h = false) (j : Nat) (hj : j < 9) : gpart (pktAt h z) 10 j = h j := by
  unfold gpart
  rw [if_pos (by omega), field_back h z hw (j + 1) (by omega)]
  unfold hval
  rw [if_neg (by omega), Nat.add_sub_cancel]
theorem gpart_hdr (h z : Nat → Int) (hw : anyWrong h = false) : hdr (gpart (pktAt h z) 10) = hdr h := by
  unfold hdr
  simp only [gpart_back h z hw 0 (by decide), gpart_back h z hw 1 (by decide), gpart_back h z hw 2 (by decide), gpart_back h z hw 3 (by decide), gpart_back h z hw 4 (by decide), gpart_back h z hw 5 (by decide), gpart_back h z hw 6 (by decide), gpart_back h z hw 7 (by decide), gpart_back h z hw 8 (by decide)]
theorem pkt_byte (h z : Nat → Int) (n : Nat) (hz : ∀ j, j < n → 0 ≤ z j ∧ z j < 256) (j : Nat) (hj : j < 20 + n) : 0 ≤ pktAt h z j ∧ pktAt h z j < 256 := by
  unfold pktAt
  split
  · have := HM.pk_lt (hdrBits h) 160 j
    omega
  · exact hz _ (by omega)

theorem hval_parsed (z : Nat → Int) (h5 : fieldv z 0 = 5) (k : Nat) (hk : k < 10) : hval (gpart z 10) k = ((fieldv z k : Nat) : Int) := by
  unfold hval
  by_cases h0 : k = 0
  · subst h0; rw [if_pos rfl, h5]; rfl
  · rw [if_neg h0]
    unfold gpart
    rw [if_pos (by omega), show k - 1 + 1 = k by omega]
theorem hdrBits_parsed (z : Nat → Int) (h5 : fieldv z 0 = 5) (t : Nat) (ht : t < 160) : hdrBits (gpart z 10) t = HM.hb z t := by
  obtain ⟨k, hk, i, hi, rfl⟩ := place_at t ht
  rw [hdrBits_at _ k i hk hi, hval_parsed z h5 k hk, Int.toNat_natCast]
  unfold fieldv
  rw [getv_bit z _ (pwd k) i hi, Nat.zero_add, so_offs]
theorem pkt_parsed (z : Nat → Int) (n : Nat) (_hn : 20 ≤ n) (hz : ∀ j, j < n → 0 ≤ z j ∧ z j < 256) (h5 : fieldv z 0 = 5) (j : Nat) (hj : j < n) : pktAt (gpart z 10) (fun i => z (20 + i)) j = z j := by
  unfold pktAt
  by_cases h : j < 20
  · rw [if_pos h, HM.pk_congr 160 j (fun t ht => hdrBits_parsed z h5 t ht)]
    exact HM.pk_all z 160 j (by omega) (hz j hj).1 (hz j hj).2
  · rw [if_neg h]; show z (20 + (j - 20)) = z j; congr 1; omega
theorem firstWrong_none (h : Nat → Int) : ∀ d k, (∀ j, k ≤ j → j < k + d → wrongB (hval h j) (pwd j) = false) → firstWrong h k d = -1
  | 0, _, _ => rfl
  | d + 1, k, hw => by
    unfold firstWrong
    rw [if_neg (by rw [hw k (Nat.le_refl _) (by omega)]; decide)]
    exact firstWrong_none h d (k + 1) (fun j h1 h2 => hw j (by omega) (by omega))
theorem wrongB_nat (x w : Nat) (hx : x < 2 ^ w) : wrongB (x : Int) w = false := by
  unfold wrongB
  have : ((x : Int) / 2 ^ w) = ((x / 2 ^ w : Nat) : Int) := by simp
  rw [this, Nat.div_eq_of_lt hx]
  simp
theorem valid_parsed (z : Nat → Int) (n : Nat) (hn : 20 ≤ n) (hm : n ≤ 9000) (h5 : fieldv z 0 = 5) (h9 : fieldv z 9 = n) : validB (gpart z 10) = true := by
  have hg : gpart z 10 8 = (n : Int) := by show ((fieldv z 9 : Nat) : Int) = n; rw [h9]
  have hf : firstWrong (gpart z 10) 0 10 = -1 := firstWrong_none _ 10 0 fun j _ hj => by
    rw [hval_parsed z h5 j (by omega)]
    exact wrongB_nat _ _ (getv_lt z _ _)
  unfold validB anyWrong
  rw [hf, hg]
  simp; omega
theorem withLen_parsed (z : Nat → Int) (n : Nat) (h9 : fieldv z 9 = n) : withLen (gpart z 10) (n : Int) = gpart z 10 := by
  funext k
  unfold withLen
  split
  · rename_i e; subst e; show (n : Int) = ((fieldv z 9 : Nat) : Int); rw [h9]
  · rfl
end Go.Proofs.Ytofaghpflmeblaa
namespace Go.Proofs.Ytofaghpflmeblaa
open Go.RowKit Go.Shelf

attribute [local go_sem] Oper.semAt_some

theorem hdr_ne {w : World} {b off H : Nat} {h : Nat → Int} {x : Int} (hB : Blk w H 36 (hdr h)) (hc : w.cell? ⟨b, off, none⟩ = some (.int .u64 x)) : b ≠ H := by
  rintro rfl
  have h1 := hB.cell off
  rw [hc] at h1
  by_cases ho : off < 9
  · rw [hdr_at h off ho] at h1
    cases h1
  · rw [Array.getElem?_eq_none (by simp [hdr]; omega)] at h1
    cases h1
theorem fieldv_lt (z : Nat → Int) (k : Nat) (hk : k < 10) : fieldv z k < 2 ^ 32 := Nat.lt_of_lt_of_le (getv_lt z _ _) (Nat.pow_le_pow_right (by decide) (pwd_le32 k hk))

set_option maxRecDepth 100000 in
set_option maxHeartbeats 8000000 in
theorem parse_rest (A : Option Addr) (n c : Nat) (z : Nat → Int) (hn : 20 ≤ n) (hm : n ≤ 9000) (hnc : n ≤ c) (hz : ∀ j, j < n → 0 ≤ z j ∧ z j < 256) (hv : fieldv z 0 = 5) (w : World) (hr : Row w w.heap.size A n (fun j => .int .u8 (z j))) :
    Calls Try.prog 42 #[.slice A n c] w (RestEnd w n z) := by
  have hmf : ∀ (fn : Fn) (first cap : Array Value) (w : World), (Instr.makeFunc fn first cap).run Try.prog w = .ok (.func fn first cap) w := fun _ _ _ _ => rfl
  have hn20 : (20 ≤ (n : Int)) := by omega
  have hnc2 : (n : Int) ≤ (c : Int) := by omega
  have hn9 : ((n : Int) ≤ 9000) := by omega
  have HR := Lib.hid hr
  have HZ := Lib.hid hz
  clear hr hz
  go_enter_defers Try.func42, Try.ntmps42
  go_upto_region 5 with (first | (go_at_call 64; refine (must_true _ _).mono ?_; rintro e w1 ⟨rfl, rfl⟩) | (go_at_call 65; refine (newReader_ok A n c z (by omega) _ (by exact row_new (row_new (row_new HR.out _) _) _)).mono ?_; rintro e w1 ⟨g, A2, c2, rfl, hg, hRS, hA2, hb1, hs1⟩; have HRS := Lib.hid hRS; have HA2 := Lib.hid hA2; have HB1 := Lib.hid hb1; have HS1 := Lib.hid hs1; clear hRS hA2 hb1 hs1))
  go_cut [6] from 21 to 23 (fun l wx => Mid w A n z l wx)
  case first =>
    refine wp_onlyNormal ?_
    go_region_with (first | (go_at_call 67; refine (widths_new _ _ _).mono ?_; rintro e w3 ⟨L, lc, rfl, hL, hLf, hb3, c5⟩; have HL := Lib.hid hL; have HLF := Lib.hid hLf; have HB3 := Lib.hid hb3; clear hL hLf hb3) | (go_at_call 66; refine (all_ok g A2 L n c2 lc z (by omega) hn HZ.out (fresh_ne HLF.out (by rw [HS1.out]; omega)) HA2.out _ ((RS.new HRS.out _).on HB3.out) HL.out).mono ?_; rintro e w4 ⟨B, cB, rfl, hR4, hg4⟩; have HR4 := Lib.hid hR4; have HG4 := Lib.hid hg4; clear hR4 hg4))
    all_goals (dsimp only [onlyNormal]; go_wp2; go_meet; exact mid_ok rfl HB1.out (by simpa using hg) HS1.out HB3.out HR4.out HG4.out HR.out)
  case rest =>
    obtain ⟨B, cB, rfl, hR, hrA, hbH, hbP, hbE, hbel, hsz⟩ := hcut
    obtain ⟨b, off, rfl, hbb, hcl⟩ := hR (by decide)
    have hcl : ∀ j, j < 10 → wc.cell? ⟨b, off + j, none⟩ = some (.int .u64 ((fieldv z j : Nat) : Int)) := hcl
    have cl0 : wc.cell? ⟨b, off, none⟩ = some (.int .u64 5) := by have := hcl 0 (by decide); rw [hv] at this; exact this
    have HbH := Lib.hid (hdr_ne hbH (hcl 0 (by decide)))
    have HCL := Lib.hid hcl
    have HV := Lib.hid hv
    have HBH := Lib.hid hbH
    have HBP := Lib.hid hbP
    have HBE := Lib.hid hbE
    have HBL := Lib.hid hbel
    have HRA := Lib.hid hrA
    have HSZ := Lib.hid hsz
    have HBB := Lib.hid hbb
    clear hR hrA hbH hbP hbE hbel hsz hcl hv hbb
    go_wp2_with (first | (go_at_call 64; refine (must_true 9 _).mono ?_; rintro e w5 ⟨rfl, rfl⟩) | (go_at_call 68; refine (parts_ok _).mono ?_; rintro e w2 ⟨rfl, hB2, hb2⟩; have HB2 := Lib.hid hB2; have Hb2 := Lib.hid hb2; clear hB2 hb2))
    obtain ⟨f, hf⟩ : ∃ f, f = w5.heap.size + 1 := ⟨_, rfl⟩
    have hfs : w5.heap.size < f := by omega
    have HK0 := Lib.hid (hf ▸ HB2.out : Blk w2 f 3 #[.int .i64 5])
    have h5 : w.heap.size < w5.heap.size := by have := HSZ.out; omega
    have hb5 : b < w5.heap.size := HBB.out
    have HF := Lib.hid (fun k (hk : k < 10) => fieldv_lt z k hk)
    rw [← hf]
    clear hf
    go_loopw [30] (fun v wr => ∃ k : Nat, k ≤ 10 ∧ v = .int .i64 k ∧ Blk wr w.heap.size 36 (hdr (gpart z k)) ∧ (∃ x, Blk wr f 3 #[.int .i64 x]) ∧ Keep2 w.heap.size f w2 wr) (fun v _ => 10 - (intOf v).toNat)
    case atStart => exact ⟨0, by omega, rfl, (HBH.out.below Hb2.out h5).to (by simp [hdr, gpart]), ⟨_, HK0.out⟩, Keep2.refl _ _ _⟩
    case round =>
      obtain ⟨k, hk, rfl, hH, ⟨x, hX⟩, hK2⟩ := hrel
      have HH := Lib.hid hH
      have HX := Lib.hid hX
      have HK2 := Lib.hid hK2
      have hcr : ∀ j, j < 10 → wr.cell? ⟨b, off + j, none⟩ = some (.int .u64 ((fieldv z j : Nat) : Int)) := fun j hj =>
        (hK2.cell (by have := Hb2.out.size; show b < _; omega) HbH.out (by show b ≠ f; omega)).trans ((Hb2.out.cell (by show b < _; omega)).trans (HCL.out j hj))
      have HCR := Lib.hid hcr
      clear hH hX hK2 hcr
      by_cases hlt : k < 10
      · have hcase : k = 0 ∨ k = 1 ∨ k = 2 ∨ k = 3 ∨ k = 4 ∨ k = 5 ∨ k = 6 ∨ k = 7 ∨ k = 8 ∨ k = 9 := by omega
        clear hk hlt
        rcases hcase with rfl | rfl | rfl | rfl | rfl | rfl | rfl | rfl | rfl | rfl
        · have hix : ∀ W : World, (Instr.index 126 (.agg (partsArr f)) (.int .i64 0)).run Try.prog W = .ok (.agg #[.string ⟨#[118, 101, 114, 115, 105, 111, 110]⟩, .int .i64 4, .func (.func 84) #[] #[.pointer (some ⟨f, 0, none⟩)]]) W := fun _ => by kernel_rfl
          obtain ⟨F, hF⟩ : ∃ F, F = fieldv z 0 := ⟨_, rfl⟩
          have ck : wr.cell? ⟨b, off, none⟩ = some (.int .u64 ((fieldv z 0 : Nat) : Int)) := HCR.out 0 (by decide)
          have hF2 := HF.out 0 (by decide)
          rw [← hF] at ck hF2
          have hFw : IntKind.i64.wrap (F : Int) = (F : Int) := by rw [IntKind.wrap_i64]; omega
          have HFF := Lib.hid hF
          clear hF hF2
          go_wp2
          obtain ⟨WD, hWD⟩ : ∃ WD, WD = (wr.alloc (.cells #[.string ⟨#[118, 101, 114, 115, 105, 111, 110]⟩, .int .i64 4, .func (.func 84) #[] #[.pointer (some ⟨f, 0, none⟩)]] 125)).drew := ⟨_, rfl⟩
          have q0 : WD.cell? ⟨wr.heap.size, 2, none⟩ = some (.func (.func 84) #[] #[.pointer (some ⟨f, 0, none⟩)]) := by rw [hWD]; exact (Blk.new wr _ _).cell 2
          have hwb : b < wr.heap.size := by have := HK2.out.size; have := Hb2.out.size; omega
          have qc : WD.cell? ⟨b, off, none⟩ = some (.int .u64 (F : Int)) := by rw [hWD]; exact (World.cell?_alloc_lt wr _ ⟨b, off, none⟩ (by show b < _; omega)).trans ck
          have qd : ∃ y, WD.cell? ⟨f, 0, none⟩ = some (.int .i64 y) := by rw [hWD]; exact ⟨_, (HX.out.alloc _).cell 0⟩
          have qf : WD.frozen? ⟨f, 0, none⟩ = false := by rw [hWD]; exact (HX.out.alloc _).frozen 0
          obtain ⟨y, qd⟩ := qd
          have nH : ∀ u, Blk (WD.setCell ⟨f, 0, none⟩ u) w.heap.size 36 _ := fun u => by rw [hWD]; exact (HH.out.alloc _).far (by show w.heap.size ≠ f; omega) _
          refine wp_region_still_tail 9 (by kernel_rfl) (by kernel_rfl) ?_
          simp only [List.take_succ_cons, List.take_zero, List.drop_succ_cons, List.drop_zero]
          change wpStill _ _ (wr.alloc (.cells #[.string ⟨#[118, 101, 114, 115, 105, 111, 110]⟩, .int .i64 4, .func (.func 84) #[] #[.pointer (some ⟨f, 0, none⟩)]] 125)).drew (fun a' => wpList _ _ _ _ a' (wr.alloc (.cells #[.string ⟨#[118, 101, 114, 115, 105, 111, 110]⟩, .int .i64 4, .func (.func 84) #[] #[.pointer (some ⟨f, 0, none⟩)]] 125)).drew) _ _
          rw [← hWD]
          have HWD := Lib.hid hWD
          clear hWD ck
          repeat (first | still_step | (refine wpStill_step (fun K hK => ?_); go_simp; refine ⟨_, (at_0 f w.heap.size WD), hK _ ?_⟩; clear hK K))
          refine wpStill_nil ?_
          go_wp2
          go_roundw
          case rel => exact ⟨1, by decide, rfl, (nH _).to (by simp [hdr, gpart]), by rw [HWD.out]; exact ⟨_, (HX.out.alloc _).set_ 0 _⟩, by rw [HWD.out]; exact ((HK2.out.alloc _).drew.set_ ⟨f, 0, none⟩ (.inr rfl) _)⟩
          case measure => simp [intOf]
        · have hix : ∀ W : World, (Instr.index 126 (.agg (partsArr f)) (.int .i64 1)).run Try.prog W = .ok (.agg #[.string ⟨#[99, 108, 97, 115, 115]⟩, .int .i64 4, .func (.func 85) #[] #[]]) W := fun _ => by kernel_rfl
          obtain ⟨F, hF⟩ : ∃ F, F = fieldv z 1 := ⟨_, rfl⟩
          have ck : wr.cell? ⟨b, off + 1, none⟩ = some (.int .u64 ((fieldv z 1 : Nat) : Int)) := HCR.out 1 (by decide)
          have hF2 := HF.out 1 (by decide)
          rw [← hF] at ck hF2
          have hFw : IntKind.i64.wrap (F : Int) = (F : Int) := by rw [IntKind.wrap_i64]; omega
          have HFF := Lib.hid hF
          clear hF hF2
          go_wp2
          obtain ⟨WD, hWD⟩ : ∃ WD, WD = (wr.alloc (.cells #[.string ⟨#[99, 108, 97, 115, 115]⟩, .int .i64 4, .func (.func 85) #[] #[]] 125)).drew := ⟨_, rfl⟩
          have q0 : WD.cell? ⟨wr.heap.size, 2, none⟩ = some (.func (.func 85) #[] #[]) := by rw [hWD]; exact (Blk.new wr _ _).cell 2
          have hwb : b < wr.heap.size := by have := HK2.out.size; have := Hb2.out.size; omega
          have qc : WD.cell? ⟨b, off + 1, none⟩ = some (.int .u64 (F : Int)) := by rw [hWD]; exact (World.cell?_alloc_lt wr _ ⟨b, off + 1, none⟩ (by show b < _; omega)).trans ck
          have qd : ∃ y, WD.cell? ⟨w.heap.size, 0, none⟩ = some (.int .i64 y) := by rw [hWD]; exact ⟨_, (HH.out.alloc _).cell 0⟩
          have qf : WD.frozen? ⟨w.heap.size, 0, none⟩ = false := by rw [hWD]; exact (HH.out.alloc _).frozen 0
          obtain ⟨y, qd⟩ := qd
          have nH : ∀ u, Blk (WD.setCell ⟨w.heap.size, 0, none⟩ u) w.heap.size 36 _ := fun u => by rw [hWD]; exact ((HH.out.alloc _).set_ 0 u)
          refine wp_region_still_tail 9 (by kernel_rfl) (by kernel_rfl) ?_
          simp only [List.take_succ_cons, List.take_zero, List.drop_succ_cons, List.drop_zero]
          change wpStill _ _ (wr.alloc (.cells #[.string ⟨#[99, 108, 97, 115, 115]⟩, .int .i64 4, .func (.func 85) #[] #[]] 125)).drew (fun a' => wpList _ _ _ _ a' (wr.alloc (.cells #[.string ⟨#[99, 108, 97, 115, 115]⟩, .int .i64 4, .func (.func 85) #[] #[]] 125)).drew) _ _
          rw [← hWD]
          have HWD := Lib.hid hWD
          clear hWD ck
          repeat (first | still_step | (refine wpStill_step (fun K hK => ?_); go_simp; refine ⟨_, (at_1 w.heap.size WD), hK _ ?_⟩; clear hK K))
          refine wpStill_nil ?_
          go_wp2
          go_roundw
          case rel => exact ⟨2, by decide, rfl, (nH _).to (by simp [hdr, gpart, HFF.out]), by rw [HWD.out]; exact ⟨_, (HX.out.alloc _).far (by show f ≠ w.heap.size; omega) _⟩, by rw [HWD.out]; exact ((HK2.out.alloc _).drew.set_ ⟨w.heap.size, 0, none⟩ (.inl rfl) _)⟩
          case measure => simp [intOf]
        · have hix : ∀ W : World, (Instr.index 126 (.agg (partsArr f)) (.int .i64 2)).run Try.prog W = .ok (.agg #[.string ⟨#[102, 108, 111, 119]⟩, .int .i64 16, .func (.func 86) #[] #[]]) W := fun _ => by kernel_rfl
          obtain ⟨F, hF⟩ : ∃ F, F = fieldv z 2 := ⟨_, rfl⟩
          have ck : wr.cell? ⟨b, off + 2, none⟩ = some (.int .u64 ((fieldv z 2 : Nat) : Int)) := HCR.out 2 (by decide)
          have hF2 := HF.out 2 (by decide)
          rw [← hF] at ck hF2
          have hFw : IntKind.i64.wrap (F : Int) = (F : Int) := by rw [IntKind.wrap_i64]; omega
          have HFF := Lib.hid hF
          clear hF hF2
          go_wp2
          obtain ⟨WD, hWD⟩ : ∃ WD, WD = (wr.alloc (.cells #[.string ⟨#[102, 108, 111, 119]⟩, .int .i64 16, .func (.func 86) #[] #[]] 125)).drew := ⟨_, rfl⟩
          have q0 : WD.cell? ⟨wr.heap.size, 2, none⟩ = some (.func (.func 86) #[] #[]) := by rw [hWD]; exact (Blk.new wr _ _).cell 2
          have hwb : b < wr.heap.size := by have := HK2.out.size; have := Hb2.out.size; omega
          have qc : WD.cell? ⟨b, off + 2, none⟩ = some (.int .u64 (F : Int)) := by rw [hWD]; exact (World.cell?_alloc_lt wr _ ⟨b, off + 2, none⟩ (by show b < _; omega)).trans ck
          have qd : ∃ y, WD.cell? ⟨w.heap.size, 1, none⟩ = some (.int .i64 y) := by rw [hWD]; exact ⟨_, (HH.out.alloc _).cell 1⟩
          have qf : WD.frozen? ⟨w.heap.size, 1, none⟩ = false := by rw [hWD]; exact (HH.out.alloc _).frozen 1
          obtain ⟨y, qd⟩ := qd
          have nH : ∀ u, Blk (WD.setCell ⟨w.heap.size, 1, none⟩ u) w.heap.size 36 _ := fun u => by rw [hWD]; exact ((HH.out.alloc _).set_ 1 u)
          refine wp_region_still_tail 9 (by kernel_rfl) (by kernel_rfl) ?_
          simp only [List.take_succ_cons, List.take_zero, List.drop_succ_cons, List.drop_zero]
          change wpStill _ _ (wr.alloc (.cells #[.string ⟨#[102, 108, 111, 119]⟩, .int .i64 16, .func (.func 86) #[] #[]] 125)).drew (fun a' => wpList _ _ _ _ a' (wr.alloc (.cells #[.string ⟨#[102, 108, 111, 119]⟩, .int .i64 16, .func (.func 86) #[] #[]] 125)).drew) _ _
          rw [← hWD]
          have HWD := Lib.hid hWD
          clear hWD ck
          repeat (first | still_step | (refine wpStill_step (fun K hK => ?_); go_simp; refine ⟨_, (at_2 w.heap.size WD), hK _ ?_⟩; clear hK K))
          refine wpStill_nil ?_
          go_wp2
          go_roundw
          case rel => exact ⟨3, by decide, rfl, (nH _).to (by simp [hdr, gpart, HFF.out]), by rw [HWD.out]; exact ⟨_, (HX.out.alloc _).far (by show f ≠ w.heap.size; omega) _⟩, by rw [HWD.out]; exact ((HK2.out.alloc _).drew.set_ ⟨w.heap.size, 1, none⟩ (.inl rfl) _)⟩
          case measure => simp [intOf]
        · have hix : ∀ W : World, (Instr.index 126 (.agg (partsArr f)) (.int .i64 3)).run Try.prog W = .ok (.agg #[.string ⟨#[115, 111, 117, 114, 99, 101]⟩, .int .i64 32, .func (.func 87) #[] #[]]) W := fun _ => by kernel_rfl
          obtain ⟨F, hF⟩ : ∃ F, F = fieldv z 3 := ⟨_, rfl⟩
          have ck : wr.cell? ⟨b, off + 3, none⟩ = some (.int .u64 ((fieldv z 3 : Nat) : Int)) := HCR.out 3 (by decide)
          have hF2 := HF.out 3 (by decide)
          rw [← hF] at ck hF2
          have hFw : IntKind.i64.wrap (F : Int) = (F : Int) := by rw [IntKind.wrap_i64]; omega
          have HFF := Lib.hid hF
          clear hF hF2
          go_wp2
          obtain ⟨WD, hWD⟩ : ∃ WD, WD = (wr.alloc (.cells #[.string ⟨#[115, 111, 117, 114, 99, 101]⟩, .int .i64 32, .func (.func 87) #[] #[]] 125)).drew := ⟨_, rfl⟩
          have q0 : WD.cell? ⟨wr.heap.size, 2, none⟩ = some (.func (.func 87) #[] #[]) := by rw [hWD]; exact (Blk.new wr _ _).cell 2
          have hwb : b < wr.heap.size := by have := HK2.out.size; have := Hb2.out.size; omega
          have qc : WD.cell? ⟨b, off + 3, none⟩ = some (.int .u64 (F : Int)) := by rw [hWD]; exact (World.cell?_alloc_lt wr _ ⟨b, off + 3, none⟩ (by show b < _; omega)).trans ck
          have qd : ∃ y, WD.cell? ⟨w.heap.size, 2, none⟩ = some (.int .i64 y) := by rw [hWD]; exact ⟨_, (HH.out.alloc _).cell 2⟩
          have qf : WD.frozen? ⟨w.heap.size, 2, none⟩ = false := by rw [hWD]; exact (HH.out.alloc _).frozen 2
          obtain ⟨y, qd⟩ := qd
          have nH : ∀ u, Blk (WD.setCell ⟨w.heap.size, 2, none⟩ u) w.heap.size 36 _ := fun u => by rw [hWD]; exact ((HH.out.alloc _).set_ 2 u)
          refine wp_region_still_tail 9 (by kernel_rfl) (by kernel_rfl) ?_
          simp only [List.take_succ_cons, List.take_zero, List.drop_succ_cons, List.drop_zero]
          change wpStill _ _ (wr.alloc (.cells #[.string ⟨#[115, 111, 117, 114, 99, 101]⟩, .int .i64 32, .func (.func 87) #[] #[]] 125)).drew (fun a' => wpList _ _ _ _ a' (wr.alloc (.cells #[.string ⟨#[115, 111, 117, 114, 99, 101]⟩, .int .i64 32, .func (.func 87) #[] #[]] 125)).drew) _ _
          rw [← hWD]
          have HWD := Lib.hid hWD
          clear hWD ck
          repeat (first | still_step | (refine wpStill_step (fun K hK => ?_); go_simp; refine ⟨_, (at_3 w.heap.size WD), hK _ ?_⟩; clear hK K))
          refine wpStill_nil ?_
          go_wp2
          go_roundw
          case rel => exact ⟨4, by decide, rfl, (nH _).to (by simp [hdr, gpart, HFF.out]), by rw [HWD.out]; exact ⟨_, (HX.out.alloc _).far (by show f ≠ w.heap.size; omega) _⟩, by rw [HWD.out]; exact ((HK2.out.alloc _).drew.set_ ⟨w.heap.size, 2, none⟩ (.inl rfl) _)⟩
          case measure => simp [intOf]
        · have hix : ∀ W : World, (Instr.index 126 (.agg (partsArr f)) (.int .i64 4)).run Try.prog W = .ok (.agg #[.string ⟨#[100, 101, 115, 116]⟩, .int .i64 32, .func (.func 88) #[] #[]]) W := fun _ => by kernel_rfl
          obtain ⟨F, hF⟩ : ∃ F, F = fieldv z 4 := ⟨_, rfl⟩
          have ck : wr.cell? ⟨b, off + 4, none⟩ = some (.int .u64 ((fieldv z 4 : Nat) : Int)) := HCR.out 4 (by decide)
          have hF2 := HF.out 4 (by decide)
          rw [← hF] at ck hF2
          have hFw : IntKind.i64.wrap (F : Int) = (F : Int) := by rw [IntKind.wrap_i64]; omega
          have HFF := Lib.hid hF
          clear hF hF2
          go_wp2
          obtain ⟨WD, hWD⟩ : ∃ WD, WD = (wr.alloc (.cells #[.string ⟨#[100, 101, 115, 116]⟩, .int .i64 32, .func (.func 88) #[] #[]] 125)).drew := ⟨_, rfl⟩
          have q0 : WD.cell? ⟨wr.heap.size, 2, none⟩ = some (.func (.func 88) #[] #[]) := by rw [hWD]; exact (Blk.new wr _ _).cell 2
          have hwb : b < wr.heap.size := by have := HK2.out.size; have := Hb2.out.size; omega
          have qc : WD.cell? ⟨b, off + 4, none⟩ = some (.int .u64 (F : Int)) := by rw [hWD]; exact (World.cell?_alloc_lt wr _ ⟨b, off + 4, none⟩ (by show b < _; omega)).trans ck
          have qd : ∃ y, WD.cell? ⟨w.heap.size, 3, none⟩ = some (.int .i64 y) := by rw [hWD]; exact ⟨_, (HH.out.alloc _).cell 3⟩
          have qf : WD.frozen? ⟨w.heap.size, 3, none⟩ = false := by rw [hWD]; exact (HH.out.alloc _).frozen 3
          obtain ⟨y, qd⟩ := qd
          have nH : ∀ u, Blk (WD.setCell ⟨w.heap.size, 3, none⟩ u) w.heap.size 36 _ := fun u => by rw [hWD]; exact ((HH.out.alloc _).set_ 3 u)
          refine wp_region_still_tail 9 (by kernel_rfl) (by kernel_rfl) ?_
          simp only [List.take_succ_cons, List.take_zero, List.drop_succ_cons, List.drop_zero]
          change wpStill _ _ (wr.alloc (.cells #[.string ⟨#[100, 101, 115, 116]⟩, .int .i64 32, .func (.func 88) #[] #[]] 125)).drew (fun a' => wpList _ _ _ _ a' (wr.alloc (.cells #[.string ⟨#[100, 101, 115, 116]⟩, .int .i64 32, .func (.func 88) #[] #[]] 125)).drew) _ _
          rw [← hWD]
          have HWD := Lib.hid hWD
          clear hWD ck
          repeat (first | still_step | (refine wpStill_step (fun K hK => ?_); go_simp; refine ⟨_, (at_4 w.heap.size WD), hK _ ?_⟩; clear hK K))
          refine wpStill_nil ?_
          go_wp2
          go_roundw
          case rel => exact ⟨5, by decide, rfl, (nH _).to (by simp [hdr, gpart, HFF.out]), by rw [HWD.out]; exact ⟨_, (HX.out.alloc _).far (by show f ≠ w.heap.size; omega) _⟩, by rw [HWD.out]; exact ((HK2.out.alloc _).drew.set_ ⟨w.heap.size, 3, none⟩ (.inl rfl) _)⟩
          case measure => simp [intOf]
        · have hix : ∀ W : World, (Instr.index 126 (.agg (partsArr f)) (.int .i64 5)).run Try.prog W = .ok (.agg #[.string ⟨#[112, 114, 111, 116, 111]⟩, .int .i64 8, .func (.func 89) #[] #[]]) W := fun _ => by kernel_rfl
          obtain ⟨F, hF⟩ : ∃ F, F = fieldv z 5 := ⟨_, rfl⟩
          have ck : wr.cell? ⟨b, off + 5, none⟩ = some (.int .u64 ((fieldv z 5 : Nat) : Int)) := HCR.out 5 (by decide)
          have hF2 := HF.out 5 (by decide)
          rw [← hF] at ck hF2
          have hFw : IntKind.i64.wrap (F : Int) = (F : Int) := by rw [IntKind.wrap_i64]; omega
          have HFF := Lib.hid hF
          clear hF hF2
          go_wp2
          obtain ⟨WD, hWD⟩ : ∃ WD, WD = (wr.alloc (.cells #[.string ⟨#[112, 114, 111, 116, 111]⟩, .int .i64 8, .func (.func 89) #[] #[]] 125)).drew := ⟨_, rfl⟩
          have q0 : WD.cell? ⟨wr.heap.size, 2, none⟩ = some (.func (.func 89) #[] #[]) := by rw [hWD]; exact (Blk.new wr _ _).cell 2
          have hwb : b < wr.heap.size := by have := HK2.out.size; have := Hb2.out.size; omega
          have qc : WD.cell? ⟨b, off + 5, none⟩ = some (.int .u64 (F : Int)) := by rw [hWD]; exact (World.cell?_alloc_lt wr _ ⟨b, off + 5, none⟩ (by show b < _; omega)).trans ck
          have qd : ∃ y, WD.cell? ⟨w.heap.size, 4, none⟩ = some (.int .i64 y) := by rw [hWD]; exact ⟨_, (HH.out.alloc _).cell 4⟩
          have qf : WD.frozen? ⟨w.heap.size, 4, none⟩ = false := by rw [hWD]; exact (HH.out.alloc _).frozen 4
          obtain ⟨y, qd⟩ := qd
          have nH : ∀ u, Blk (WD.setCell ⟨w.heap.size, 4, none⟩ u) w.heap.size 36 _ := fun u => by rw [hWD]; exact ((HH.out.alloc _).set_ 4 u)
          refine wp_region_still_tail 9 (by kernel_rfl) (by kernel_rfl) ?_
          simp only [List.take_succ_cons, List.take_zero, List.drop_succ_cons, List.drop_zero]
          change wpStill _ _ (wr.alloc (.cells #[.string ⟨#[112, 114, 111, 116, 111]⟩, .int .i64 8, .func (.func 89) #[] #[]] 125)).drew (fun a' => wpList _ _ _ _ a' (wr.alloc (.cells #[.string ⟨#[112, 114, 111, 116, 111]⟩, .int .i64 8, .func (.func 89) #[] #[]] 125)).drew) _ _
          rw [← hWD]
          have HWD := Lib.hid hWD
          clear hWD ck
          repeat (first | still_step | (refine wpStill_step (fun K hK => ?_); go_simp; refine ⟨_, (at_5 w.heap.size WD), hK _ ?_⟩; clear hK K))
          refine wpStill_nil ?_
          go_wp2
          go_roundw
          case rel => exact ⟨6, by decide, rfl, (nH _).to (by simp [hdr, gpart, HFF.out]), by rw [HWD.out]; exact ⟨_, (HX.out.alloc _).far (by show f ≠ w.heap.size; omega) _⟩, by rw [HWD.out]; exact ((HK2.out.alloc _).drew.set_ ⟨w.heap.size, 4, none⟩ (.inl rfl) _)⟩
          case measure => simp [intOf]
        · have hix : ∀ W : World, (Instr.index 126 (.agg (partsArr f)) (.int .i64 6)).run Try.prog W = .ok (.agg #[.string ⟨#[104, 111, 112, 115]⟩, .int .i64 8, .func (.func 90) #[] #[]]) W := fun _ => by kernel_rfl
          obtain ⟨F, hF⟩ : ∃ F, F = fieldv z 6 := ⟨_, rfl⟩
          have ck : wr.cell? ⟨b, off + 6, none⟩ = some (.int .u64 ((fieldv z 6 : Nat) : Int)) := HCR.out 6 (by decide)
          have hF2 := HF.out 6 (by decide)
          rw [← hF] at ck hF2
          have hFw : IntKind.i64.wrap (F : Int) = (F : Int) := by rw [IntKind.wrap_i64]; omega
          have HFF := Lib.hid hF
          clear hF hF2
          go_wp2
          obtain ⟨WD, hWD⟩ : ∃ WD, WD = (wr.alloc (.cells #[.string ⟨#[104, 111, 112, 115]⟩, .int .i64 8, .func (.func 90) #[] #[]] 125)).drew := ⟨_, rfl⟩
          have q0 : WD.cell? ⟨wr.heap.size, 2, none⟩ = some (.func (.func 90) #[] #[]) := by rw [hWD]; exact (Blk.new wr _ _).cell 2
          have hwb : b < wr.heap.size := by have := HK2.out.size; have := Hb2.out.size; omega
          have qc : WD.cell? ⟨b, off + 6, none⟩ = some (.int .u64 (F : Int)) := by rw [hWD]; exact (World.cell?_alloc_lt wr _ ⟨b, off + 6, none⟩ (by show b < _; omega)).trans ck
          have qd : ∃ y, WD.cell? ⟨w.heap.size, 5, none⟩ = some (.int .i64 y) := by rw [hWD]; exact ⟨_, (HH.out.alloc _).cell 5⟩
          have qf : WD.frozen? ⟨w.heap.size, 5, none⟩ = false := by rw [hWD]; exact (HH.out.alloc _).frozen 5
          obtain ⟨y, qd⟩ := qd
          have nH : ∀ u, Blk (WD.setCell ⟨w.heap.size, 5, none⟩ u) w.heap.size 36 _ := fun u => by rw [hWD]; exact ((HH.out.alloc _).set_ 5 u)
          refine wp_region_still_tail 9 (by kernel_rfl) (by kernel_rfl) ?_
          simp only [List.take_succ_cons, List.take_zero, List.drop_succ_cons, List.drop_zero]
          change wpStill _ _ (wr.alloc (.cells #[.string ⟨#[104, 111, 112, 115]⟩, .int .i64 8, .func (.func 90) #[] #[]] 125)).drew (fun a' => wpList _ _ _ _ a' (wr.alloc (.cells #[.string ⟨#[104, 111, 112, 115]⟩, .int .i64 8, .func (.func 90) #[] #[]] 125)).drew) _ _
          rw [← hWD]
          have HWD := Lib.hid hWD
          clear hWD ck
          repeat (first | still_step | (refine wpStill_step (fun K hK => ?_); go_simp; refine ⟨_, (at_6 w.heap.size WD), hK _ ?_⟩; clear hK K))
          refine wpStill_nil ?_
          go_wp2
          go_roundw
          case rel => exact ⟨7, by decide, rfl, (nH _).to (by simp [hdr, gpart, HFF.out]), by rw [HWD.out]; exact ⟨_, (HX.out.alloc _).far (by show f ≠ w.heap.size; omega) _⟩, by rw [HWD.out]; exact ((HK2.out.alloc _).drew.set_ ⟨w.heap.size, 5, none⟩ (.inl rfl) _)⟩
          case measure => simp [intOf]
        · have hix : ∀ W : World, (Instr.index 126 (.agg (partsArr f)) (.int .i64 7)).run Try.prog W = .ok (.agg #[.string ⟨#[105, 100, 101, 110, 116]⟩, .int .i64 16, .func (.func 91) #[] #[]]) W := fun _ => by kernel_rfl
          obtain ⟨F, hF⟩ : ∃ F, F = fieldv z 7 := ⟨_, rfl⟩
          have ck : wr.cell? ⟨b, off + 7, none⟩ = some (.int .u64 ((fieldv z 7 : Nat) : Int)) := HCR.out 7 (by decide)
          have hF2 := HF.out 7 (by decide)
          rw [← hF] at ck hF2
          have hFw : IntKind.i64.wrap (F : Int) = (F : Int) := by rw [IntKind.wrap_i64]; omega
          have HFF := Lib.hid hF
          clear hF hF2
          go_wp2
          obtain ⟨WD, hWD⟩ : ∃ WD, WD = (wr.alloc (.cells #[.string ⟨#[105, 100, 101, 110, 116]⟩, .int .i64 16, .func (.func 91) #[] #[]] 125)).drew := ⟨_, rfl⟩
          have q0 : WD.cell? ⟨wr.heap.size, 2, none⟩ = some (.func (.func 91) #[] #[]) := by rw [hWD]; exact (Blk.new wr _ _).cell 2
          have hwb : b < wr.heap.size := by have := HK2.out.size; have := Hb2.out.size; omega
          have qc : WD.cell? ⟨b, off + 7, none⟩ = some (.int .u64 (F : Int)) := by rw [hWD]; exact (World.cell?_alloc_lt wr _ ⟨b, off + 7, none⟩ (by show b < _; omega)).trans ck
          have qd : ∃ y, WD.cell? ⟨w.heap.size, 6, none⟩ = some (.int .i64 y) := by rw [hWD]; exact ⟨_, (HH.out.alloc _).cell 6⟩
          have qf : WD.frozen? ⟨w.heap.size, 6, none⟩ = false := by rw [hWD]; exact (HH.out.alloc _).frozen 6
          obtain ⟨y, qd⟩ := qd
          have nH : ∀ u, Blk (WD.setCell ⟨w.heap.size, 6, none⟩ u) w.heap.size 36 _ := fun u => by rw [hWD]; exact ((HH.out.alloc _).set_ 6 u)
          refine wp_region_still_tail 9 (by kernel_rfl) (by kernel_rfl) ?_
          simp only [List.take_succ_cons, List.take_zero, List.drop_succ_cons, List.drop_zero]
          change wpStill _ _ (wr.alloc (.cells #[.string ⟨#[105, 100, 101, 110, 116]⟩, .int .i64 16, .func (.func 91) #[] #[]] 125)).drew (fun a' => wpList _ _ _ _ a' (wr.alloc (.cells #[.string ⟨#[105, 100, 101, 110, 116]⟩, .int .i64 16, .func (.func 91) #[] #[]] 125)).drew) _ _
          rw [← hWD]
          have HWD := Lib.hid hWD
          clear hWD ck
          repeat (first | still_step | (refine wpStill_step (fun K hK => ?_); go_simp; refine ⟨_, (at_7 w.heap.size WD), hK _ ?_⟩; clear hK K))
          refine wpStill_nil ?_
          go_wp2
          go_roundw
          case rel => exact ⟨8, by decide, rfl, (nH _).to (by simp [hdr, gpart, HFF.out]), by rw [HWD.out]; exact ⟨_, (HX.out.alloc _).far (by show f ≠ w.heap.size; omega) _⟩, by rw [HWD.out]; exact ((HK2.out.alloc _).drew.set_ ⟨w.heap.size, 6, none⟩ (.inl rfl) _)⟩
          case measure => simp [intOf]
        · have hix : ∀ W : World, (Instr.index 126 (.agg (partsArr f)) (.int .i64 8)).run Try.prog W = .ok (.agg #[.string ⟨#[116, 105, 109, 101]⟩, .int .i64 24, .func (.func 92) #[] #[]]) W := fun _ => by kernel_rfl
          obtain ⟨F, hF⟩ : ∃ F, F = fieldv z 8 := ⟨_, rfl⟩
          have ck : wr.cell? ⟨b, off + 8, none⟩ = some (.int .u64 ((fieldv z 8 : Nat) : Int)) := HCR.out 8 (by decide)
          have hF2 := HF.out 8 (by decide)
          rw [← hF] at ck hF2
          have hFw : IntKind.i64.wrap (F : Int) = (F : Int) := by rw [IntKind.wrap_i64]; omega
          have HFF := Lib.hid hF
          clear hF hF2
          go_wp2
          obtain ⟨WD, hWD⟩ : ∃ WD, WD = (wr.alloc (.cells #[.string ⟨#[116, 105, 109, 101]⟩, .int .i64 24, .func (.func 92) #[] #[]] 125)).drew := ⟨_, rfl⟩
          have q0 : WD.cell? ⟨wr.heap.size, 2, none⟩ = some (.func (.func 92) #[] #[]) := by rw [hWD]; exact (Blk.new wr _ _).cell 2
          have hwb : b < wr.heap.size := by have := HK2.out.size; have := Hb2.out.size; omega
          have qc : WD.cell? ⟨b, off + 8, none⟩ = some (.int .u64 (F : Int)) := by rw [hWD]; exact (World.cell?_alloc_lt wr _ ⟨b, off + 8, none⟩ (by show b < _; omega)).trans ck
          have qd : ∃ y, WD.cell? ⟨w.heap.size, 7, none⟩ = some (.int .i64 y) := by rw [hWD]; exact ⟨_, (HH.out.alloc _).cell 7⟩
          have qf : WD.frozen? ⟨w.heap.size, 7, none⟩ = false := by rw [hWD]; exact (HH.out.alloc _).frozen 7
          obtain ⟨y, qd⟩ := qd
          have nH : ∀ u, Blk (WD.setCell ⟨w.heap.size, 7, none⟩ u) w.heap.size 36 _ := fun u => by rw [hWD]; exact ((HH.out.alloc _).set_ 7 u)
          refine wp_region_still_tail 9 (by kernel_rfl) (by kernel_rfl) ?_
          simp only [List.take_succ_cons, List.take_zero, List.drop_succ_cons, List.drop_zero]
          change wpStill _ _ (wr.alloc (.cells #[.string ⟨#[116, 105, 109, 101]⟩, .int .i64 24, .func (.func 92) #[] #[]] 125)).drew (fun a' => wpList _ _ _ _ a' (wr.alloc (.cells #[.string ⟨#[116, 105, 109, 101]⟩, .int .i64 24, .func (.func 92) #[] #[]] 125)).drew) _ _
          rw [← hWD]
          have HWD := Lib.hid hWD
          clear hWD ck
          repeat (first | still_step | (refine wpStill_step (fun K hK => ?_); go_simp; refine ⟨_, (at_8 w.heap.size WD), hK _ ?_⟩; clear hK K))
          refine wpStill_nil ?_
          go_wp2
          go_roundw
          case rel => exact ⟨9, by decide, rfl, (nH _).to (by simp [hdr, gpart, HFF.out]), by rw [HWD.out]; exact ⟨_, (HX.out.alloc _).far (by show f ≠ w.heap.size; omega) _⟩, by rw [HWD.out]; exact ((HK2.out.alloc _).drew.set_ ⟨w.heap.size, 7, none⟩ (.inl rfl) _)⟩
          case measure => simp [intOf]
        · have hix : ∀ W : World, (Instr.index 126 (.agg (partsArr f)) (.int .i64 9)).run Try.prog W = .ok (.agg #[.string ⟨#[108, 101, 110, 103, 116, 104]⟩, .int .i64 16, .func (.func 93) #[] #[]]) W := fun _ => by kernel_rfl
          obtain ⟨F, hF⟩ : ∃ F, F = fieldv z 9 := ⟨_, rfl⟩
          have ck : wr.cell? ⟨b, off + 9, none⟩ = some (.int .u64 ((fieldv z 9 : Nat) : Int)) := HCR.out 9 (by decide)
          have hF2 := HF.out 9 (by decide)
          rw [← hF] at ck hF2
          have hFw : IntKind.i64.wrap (F : Int) = (F : Int) := by rw [IntKind.wrap_i64]; omega
          have HFF := Lib.hid hF
          clear hF hF2
          go_wp2
          obtain ⟨WD, hWD⟩ : ∃ WD, WD = (wr.alloc (.cells #[.string ⟨#[108, 101, 110, 103, 116, 104]⟩, .int .i64 16, .func (.func 93) #[] #[]] 125)).drew := ⟨_, rfl⟩
          have q0 : WD.cell? ⟨wr.heap.size, 2, none⟩ = some (.func (.func 93) #[] #[]) := by rw [hWD]; exact (Blk.new wr _ _).cell 2
          have hwb : b < wr.heap.size := by have := HK2.out.size; have := Hb2.out.size; omega
          have qc : WD.cell? ⟨b, off + 9, none⟩ = some (.int .u64 (F : Int)) := by rw [hWD]; exact (World.cell?_alloc_lt wr _ ⟨b, off + 9, none⟩ (by show b < _; omega)).trans ck
          have qd : ∃ y, WD.cell? ⟨w.heap.size, 8, none⟩ = some (.int .i64 y) := by rw [hWD]; exact ⟨_, (HH.out.alloc _).cell 8⟩
          have qf : WD.frozen? ⟨w.heap.size, 8, none⟩ = false := by rw [hWD]; exact (HH.out.alloc _).frozen 8
          obtain ⟨y, qd⟩ := qd
          have nH : ∀ u, Blk (WD.setCell ⟨w.heap.size, 8, none⟩ u) w.heap.size 36 _ := fun u => by rw [hWD]; exact ((HH.out.alloc _).set_ 8 u)
          refine wp_region_still_tail 9 (by kernel_rfl) (by kernel_rfl) ?_
          simp only [List.take_succ_cons, List.take_zero, List.drop_succ_cons, List.drop_zero]
          change wpStill _ _ (wr.alloc (.cells #[.string ⟨#[108, 101, 110, 103, 116, 104]⟩, .int .i64 16, .func (.func 93) #[] #[]] 125)).drew (fun a' => wpList _ _ _ _ a' (wr.alloc (.cells #[.string ⟨#[108, 101, 110, 103, 116, 104]⟩, .int .i64 16, .func (.func 93) #[] #[]] 125)).drew) _ _
          rw [← hWD]
          have HWD := Lib.hid hWD
          clear hWD ck
          repeat (first | still_step | (refine wpStill_step (fun K hK => ?_); go_simp; refine ⟨_, (at_9 w.heap.size WD), hK _ ?_⟩; clear hK K))
          refine wpStill_nil ?_
          go_wp2
          go_roundw
          case rel => exact ⟨10, by decide, rfl, (nH _).to (by simp [hdr, gpart, HFF.out]), by rw [HWD.out]; exact ⟨_, (HX.out.alloc _).far (by show f ≠ w.heap.size; omega) _⟩, by rw [HWD.out]; exact ((HK2.out.alloc _).drew.set_ ⟨w.heap.size, 8, none⟩ (.inl rfl) _)⟩
          case measure => simp [intOf]
      · obtain rfl : k = 10 := by omega
        have ch : wr.cell? ⟨w.heap.size, 8, none⟩ = some (.int .i64 ((fieldv z 9 : Nat) : Int)) := HH.out.cell 8
        have HBW := Lib.hid (HK2.out.below ((HBL.out.trans (Hb2.out.mono (by omega)))) (Nat.le_refl _) (by omega) (by have := Hb2.out.size; omega))
        have hs2 := Hb2.out.size
        have hsz := HSZ.out
        have BP := Lib.hid (HK2.out.blk (HBP.out.below Hb2.out (by omega)) (by omega) (by omega))
        have BE := Lib.hid (HK2.out.blk (HBE.out.below Hb2.out (by omega)) (by omega) (by omega))
        obtain ⟨F, hF⟩ : ∃ F, F = fieldv z 9 := ⟨_, rfl⟩
        rw [← hF] at ch
        by_cases h9 : F = n
        · have h91 : ((F : Int) = (n : Int)) := by omega
          have h92 : ((F : Int) == (n : Int)) = true := by simp; omega
          have HFF := Lib.hid hF
          clear hF
          have HRW := Lib.hid (HRA.out.keep (w' := wr) fun p hp => (HK2.out.cell (by omega) (by omega) (by omega)).trans (Hb2.out.cell (by omega)))
          go_upto_region 13 with (go_at_call 64; refine (must_true 9 _).mono ?_; rintro e w7 ⟨rfl, rfl⟩)
          clear h91 h92 ch
          have N9 := Lib.hid h9
          clear h9
          obtain ⟨lb, lo, rfl, _, hx⟩ := HRW.out (by omega)
          clear hx
          obtain ⟨lo2, hsl, hlo2⟩ := slice20 lb lo n c hn hnc
          have HLO := Lib.hid hlo2
          have ST : Hid (St w (some ⟨lb, lo, none⟩) n z w7) := Lib.hid ⟨HH.out, ⟨_, BP.out⟩, BE.out, HRW.out, HBW.out⟩
          clear hlo2
          have STD : Hid (St w (some ⟨lb, lo, none⟩) n z w7.drew) := Lib.hid ⟨HH.out, ⟨_, BP.out⟩, BE.out, HRW.out, ⟨HBW.out.os, HBW.out.tape, HBW.out.output, HBW.out.size, HBW.out.block⟩⟩
          obtain ⟨-, -, -, -, -, -, -, -, -, -, -, -, -, -, -, -, -, -, -, -, -, -, d0, d1, d2, d3, d4, d5, d6, d7, d8, dd⟩ := STD.out.rules
          obtain ⟨⟨v0, yp⟩, y0, y1, y2, y3, y4, y5, y6, y7, y8, f0, f1, f2, f3, f4, f5, f6, f7, f8, fp, ye, fe, -⟩ := ST.out.rules
          refine wp_onlyNormal ?_
          go_region_with (go_at_call 59; refine (clone_pay w _ lb lo lo2 n z (by omega) STD.out HLO.out).mono ?_; rintro e w8 ⟨P, cP, rfl, hcP, hPay, hb8⟩; have HCP := Lib.hid hcP; have HPAY := Lib.hid (hPay.setP (.slice P (n - 20 : Nat) cP)); have ST8 := Lib.hid (STD.out.clone hb8); have ST9 := Lib.hid (ST8.out.setP (.slice P (n - 20 : Nat) cP)); have B9 := Lib.hid (ST8.out.paid (.slice P (n - 20 : Nat) cP)); clear hcP hPay hb8; obtain ⟨⟨v8, yp'⟩, y0', y1', y2', y3', y4', y5', y6', y7', y8', f0', f1', f2', f3', f4', f5', f6', f7', f8', fp', ye', fe', e0', e1', e2', e3', e4', e5', e6', e7', e8', ee'⟩ := ST8.out.rules; obtain ⟨-, -, -, -, -, -, -, -, -, -, -, -, -, -, -, -, -, -, -, -, -, -, e0'', e1'', e2'', e3'', e4'', e5'', e6'', e7'', e8'', ee''⟩ := ST9.out.rules)
          all_goals (dsimp only [onlyNormal]; go_wp2; exact good_leaves _ _ (gpart z 10) P (n - 20) cP w.heap.size _ ST9.out.hdr B9.out ST9.out.err ⟨fun _ => ⟨P, cP, rfl, HCP.out, ownsRow_mono HPAY.out (by omega), ST9.out.below⟩, fun hne => absurd (HFF.out.symm.trans N9.out) hne⟩ rfl rfl rfl)
        · have h91 : ¬ ((F : Int) = (n : Int)) := by omega
          have h92 : ((F : Int) == (n : Int)) = false := by simp; omega
          have h93 : decide ((F : Int) = (n : Int)) = false := by simp; omega
          have HFF := Lib.hid hF
          clear hF
          go_wp2_with (go_at_call 64; refine (must_false 9 _).mono ?_; rintro e w7 ⟨rfl, rfl⟩)
          exact bad_leaves_to _ w _ (gpart z 10) (.slice none 0 0) 0 9 w.heap.size _ rfl HH.out BP.out BE.out HBW.out (fun _ _ hb => ⟨fun e9 => absurd (HFF.out.trans e9) (by omega), fun _ => hb⟩) rfl rfl rfl
end Go.Proofs.Ytofaghpflmeblaa
namespace Go.Proofs.Ytofaghpflmeblaa
open Go.RowKit Go.Shelf

attribute [local go_sem] Oper.semAt_some

theorem three_new (w : World) : ∀ W, W = ((w.alloc (.cells #[.int .i64 0, .int .i64 0, .int .i64 0, .int .i64 0, .int .i64 0, .int .i64 0, .int .i64 0, .int .i64 0, .int .i64 0] 36)).alloc (.cells #[.slice none 0 0] 24)).alloc (.cells #[.int .i64 0] 28) →
    Blk W w.heap.size 36 (hdr (fun _ => 0)) ∧ Blk W (w.heap.size + 1) 24 #[.slice none 0 0] ∧ Blk W (w.heap.size + 1 + 1) 28 #[.int .i64 0] ∧ Below w.heap.size w W ∧ W.heap.size = w.heap.size + 1 + 1 + 1 := by
  rintro W rfl
  refine ⟨((Blk.new w 36 (hdr (fun _ => 0))).alloc _).alloc _, ?_, ?_, (((Below.refl _ w).alloc (Nat.le_refl _) _).alloc (by simp) _).alloc (by simp; omega) _, by simp⟩
  · have := (Blk.new (w.alloc (.cells (hdr (fun _ => 0)) 36)) 24 #[.slice none 0 0])
    rw [World.size_alloc] at this
    exact this.alloc _
  · have := (Blk.new ((w.alloc (.cells (hdr (fun _ => 0)) 36)).alloc (.cells #[.slice none 0 0] 24)) 28 #[.int .i64 0])
    rw [World.size_alloc, World.size_alloc] at this
    exact this

set_option maxRecDepth 100000 in
set_option maxHeartbeats 400000 in
theorem parse_long (A : Option Addr) (n c : Nat) (hn : 9000 < n) (w : World) :
    Calls Try.prog 42 #[.slice A n c] w (BadEnd w 4) := by
  have hmf : ∀ (fn : Fn) (first cap : Array Value) (w : World), (Instr.makeFunc fn first cap).run Try.prog w = .ok (.func fn first cap) w := fun _ _ _ _ => rfl
  have hn20 : (20 ≤ (n : Int)) := by omega
  have hn9 : ¬ ((n : Int) ≤ 9000) := by omega
  have hd9 : decide ((n : Int) ≤ 9000) = false := by simp; omega
  have hd20 : decide (20 ≤ (n : Int)) = true := by simp; omega
  go_enter_defers Try.func42, Try.ntmps42
  go_wp2_with (first | (go_at_call 64; refine (must_false 4 _).mono ?_; rintro e w1 ⟨rfl, rfl⟩) | (go_at_call 64; refine (must_true 5 _).mono ?_; rintro e w1 ⟨rfl, rfl⟩))
  have T := three_new w _ rfl
  refine bad_leaves w _ (fun _ => 0) (.slice none 0 0) 0 4 w.heap.size _ rfl ?_ ?_ ?_ ?_ rfl rfl rfl
  · exact T.1
  · exact T.2.1
  · exact T.2.2.1
  · exact T.2.2.2.1

end Go.Proofs.Ytofaghpflmeblaa
namespace Go.Proofs.Ytofaghpflmeblaa
open Go.RowKit

/-- the error of n bytes z -/
def pErr (n : Nat) (z : Nat → Int) : Int := if n < 20 then 5 else if 9000 < n then 4 else if fieldv z 0 = 5 ∧ fieldv z 9 = n then 0 else 9
/-- the header's fields -/
def pHdr (n : Nat) (z : Nat → Int) (j : Nat) : Int := if pErr n z = 0 then gpart z 10 j else 0
/-- the payload's length -/
def pLen (n : Nat) (z : Nat → Int) : Nat := if pErr n z = 0 then n - 20 else 0
theorem pLen_le (n : Nat) (z : Nat → Int) : pLen n z ≤ n - 20 := by unfold pLen; split <;> omega
theorem pHdr_zero (n : Nat) (z : Nat → Int) (h : pErr n z ≠ 0) : hdr (pHdr n z) = hdr (fun _ => 0) := by
  unfold hdr pHdr
  simp [h]
theorem pHdr_good (n : Nat) (z : Nat → Int) (h : pErr n z = 0) : hdr (pHdr n z) = hdr (gpart z 10) := by
  unfold hdr pHdr
  simp [h]

def ParseEnd (n : Nat) (z : Nat → Int) (w : World) (e : Ending) (w' : World) : Prop :=
  ∃ P c, e = .returned (.tuple #[.agg (hdr (pHdr n z)), .slice P (pLen n z : Nat) c, .int .i64 (pErr n z)]) ∧ pLen n z ≤ c ∧
    w'.ownsRow w.heap.size 5 1 (.slice P (pLen n z : Nat) c) (pLen n z) ((List.range (pLen n z)).map (fun j => .int .u8 (z (20 + j)))) ∧ Below w.heap.size w w'
theorem ParseEnd.bad {n : Nat} {z : Nat → Int} {w : World} {e : Ending} {w' : World} {x : Int} (h : BadEnd w x e w') (hx : pErr n z = x) (h0 : x ≠ 0) : ParseEnd n z w e w' := by
  obtain ⟨rfl, hb⟩ := h
  subst hx
  have hl : pLen n z = 0 := by unfold pLen; rw [if_neg h0]
  refine ⟨none, 0, ?_, by omega, ?_, hb⟩
  · rw [pHdr_zero n z h0, hl]
  · rw [hl]; exact World.ownsRow_nil _ _ _ _

theorem parse_any (A : Option Addr) (n c : Nat) (z : Nat → Int) (hnc : n ≤ c) (hz : ∀ j, j < n → 0 ≤ z j ∧ z j < 256) (w : World) (hr : Row w w.heap.size A n (fun j => .int .u8 (z j))) :
    Calls Try.prog 42 #[.slice A n c] w (ParseEnd n z w) := by
  by_cases h20 : n < 20
  · exact (parse_short A n c h20 w).mono fun _ _ h => ParseEnd.bad h (by unfold pErr; rw [if_pos h20]) (by decide)
  by_cases h9 : 9000 < n
  · exact (parse_long A n c h9 w).mono fun _ _ h => ParseEnd.bad h (by unfold pErr; rw [if_neg h20, if_pos h9]) (by decide)
  by_cases h5 : fieldv z 0 = 5
  · refine (parse_rest A n c z (by omega) (by omega) hnc hz h5 w hr).mono fun e w' h => ?_
    by_cases hl : fieldv z 9 = n
    · have h0 : pErr n z = 0 := by unfold pErr; rw [if_neg h20, if_neg h9, if_pos ⟨h5, hl⟩]
      obtain ⟨P, c2, he, hc, ho, hb⟩ := h.1 hl
      have hp : pLen n z = n - 20 := by unfold pLen; rw [if_pos h0]
      exact ⟨P, c2, by rw [he, pHdr_good n z h0, hp, h0], by omega, by rw [hp]; exact ho, hb⟩
    · exact ParseEnd.bad (h.2 hl) (by unfold pErr; rw [if_neg h20, if_neg h9, if_neg (fun h => hl h.2)]) (by decide)
  · exact (parse_version A n c z (by omega) (by omega) hz (fun h => h5 h) w hr).mono fun _ _ h => ParseEnd.bad h (by unfold pErr; rw [if_neg h20, if_neg h9, if_neg (fun h => h5 h.1)]) (by decide)
end Go.Proofs.Ytofaghpflmeblaa
namespace Go.Proofs.Ytofaghpflmeblaa
open Go.RowKit

theorem Blk.nine {w : World} {g : Nat} {t : TypeId} {a0 a1 a2 a3 a4 a5 a6 a7 a8 : Value} (h : Blk w g t #[a0, a1, a2, a3, a4, a5, a6, a7, a8]) :
    w.cell? ⟨g, 0, none⟩ = some a0 ∧ w.cell? ⟨g, 1, none⟩ = some a1 ∧ w.cell? ⟨g, 2, none⟩ = some a2 ∧ w.cell? ⟨g, 3, none⟩ = some a3 ∧ w.cell? ⟨g, 4, none⟩ = some a4 ∧ w.cell? ⟨g, 5, none⟩ = some a5 ∧ w.cell? ⟨g, 6, none⟩ = some a6 ∧ w.cell? ⟨g, 7, none⟩ = some a7 ∧ w.cell? ⟨g, 8, none⟩ = some a8 :=
  ⟨h.cell 0, h.cell 1, h.cell 2, h.cell 3, h.cell 4, h.cell 5, h.cell 6, h.cell 7, h.cell 8⟩

def hw (k : Nat) : Int := ([1, 2, 3, 4, 5, 6, 7, 8, 0] : List Int).getD k 0
def hwide (k : Nat) : Int := ([16, 2, 3, 4, 5, 6, 7, 8, 0] : List Int).getD k 0
def wz (j : Nat) : Int := ([81, 0, 2, 0, 0, 0, 3, 0, 0, 0, 4, 5, 6, 0, 7, 0, 0, 8, 0, 21, 170] : List Int).getD j 0
theorem wz_pkt : ∀ j, j < 21 → pktAt (withLen hw (20 + (1 : Nat))) (fun _ => 170) j = wz j := by decide +kernel
theorem wz_byte : ∀ j, j < 21 → 0 ≤ wz j ∧ wz j < 256 := by decide +kernel
theorem wz_str : bytesOf 21 wz = ⟨#[81, 0, 2, 0, 0, 0, 3, 0, 0, 0, 4, 5, 6, 0, 7, 0, 0, 8, 0, 21, 170]⟩ := by decide +kernel
theorem one_str : bytesOf 1 (fun _ => 170) = ⟨#[170]⟩ := by decide +kernel

theorem Blk.one_row {w : World} {B g : Nat} {t : TypeId} {x : Value} (h : Blk w g t #[x]) (hB : g < B) : Row w B (some ⟨g, 0, none⟩) 1 (fun _ => x) := fun _ => ⟨g, 0, rfl, hB, fun j hj => by
  obtain rfl : j = 0 := by omega
  exact h.cell 0⟩
theorem wb1 (W : World) (N : Nat) (hN : W.heap.size = N) : Calls Try.prog 79 #[.agg #[.int .i64 1, .int .i64 2, .int .i64 3, .int .i64 4, .int .i64 5, .int .i64 6, .int .i64 7, .int .i64 8, .int .i64 0], .slice (some ⟨N, 0, none⟩) 1 1] (W.alloc (.cells #[.int .u8 170] 5)) fun e w' =>
    ∃ A c, e = .returned (.tuple #[.slice A 21 c, .int .i64 0]) ∧ 21 ≤ c ∧ Row w' w'.heap.size A 21 (fun j => .int .u8 (wz j)) ∧ Below W.heap.size W w' := by
  subst hN
  refine (build_good hw (some ⟨W.heap.size, 0, none⟩) 1 1 (fun _ => 170) (by decide) (by decide +kernel) _ ((Blk.new W 5 #[.int .u8 170]).one_row (by simp))).mono ?_
  rintro e w' ⟨A, c, rfl, hc, ho, hb⟩
  exact ⟨A, c, rfl, hc, (own_map_row ho).2.congr (fun j hj => by rw [wz_pkt j hj]), ((Below.refl _ W).alloc (Nat.le_refl _) _).trans (hb.mono (by simp))⟩
theorem wb2 (W : World) : Calls Try.prog 79 #[.agg #[.int .i64 16, .int .i64 2, .int .i64 3, .int .i64 4, .int .i64 5, .int .i64 6, .int .i64 7, .int .i64 8, .int .i64 0], .slice none 0 0] W fun e w' =>
    e = .returned (.tuple #[.slice none 0 0, .int .i64 2]) ∧ Below W.heap.size W w' :=
  build_bad hwide none 0 0 (by decide) (by decide +kernel) W
theorem we1 (W : World) : Calls Try.prog 95 #[.agg #[.int .i64 1, .int .i64 2, .int .i64 3, .int .i64 4, .int .i64 5, .int .i64 6, .int .i64 7, .int .i64 8, .int .i64 0]] W fun e w' =>
    e = .returned (.tuple #[.slice none 0 0, .int .i64 2]) ∧ Below W.heap.size W w' :=
  encode_bad hw (by decide +kernel) W
theorem wp1 (W : World) (A : Option Addr) (c : Nat) (hc : 21 ≤ c) (hr : Row W W.heap.size A 21 (fun j => .int .u8 (wz j))) : Calls Try.prog 42 #[.slice A 21 c] W fun e w' =>
    ∃ P c, e = .returned (.tuple #[.agg #[.int .i64 1, .int .i64 2, .int .i64 3, .int .i64 4, .int .i64 5, .int .i64 6, .int .i64 7, .int .i64 8, .int .i64 21], .slice P 1 c, .int .i64 0]) ∧ Row w' w'.heap.size P 1 (fun _ => .int .u8 170) ∧ Below W.heap.size W w' := by
  refine (parse_any A 21 c wz hc wz_byte W hr).mono ?_
  rintro e w' ⟨P, c, rfl, hc, ho, hb⟩
  have e0 : pErr 21 wz = 0 := by decide +kernel
  have e1 : pLen 21 wz = 1 := by decide +kernel
  have e2 : hdr (pHdr 21 wz) = #[.int .i64 1, .int .i64 2, .int .i64 3, .int .i64 4, .int .i64 5, .int .i64 6, .int .i64 7, .int .i64 8, .int .i64 21] := by kernel_rfl
  rw [e1] at ho
  have hj1 : ∀ j, j < 1 → Value.int .u8 (wz (20 + j)) = .int .u8 170 := by
    intro j hj
    obtain rfl : j = 0 := by omega
    rfl
  exact ⟨P, c, by rw [e0, e1, e2], (own_map_row ho).2.congr hj1, hb⟩
theorem wp2 (W : World) (A : Option Addr) (c : Nat) : Calls Try.prog 42 #[.slice A 19 c] W fun e w' =>
    e = .returned (.tuple #[.agg #[.int .i64 0, .int .i64 0, .int .i64 0, .int .i64 0, .int .i64 0, .int .i64 0, .int .i64 0, .int .i64 0, .int .i64 0], .slice none 0 0, .int .i64 5]) ∧ Below W.heap.size W w' :=
  parse_short A 19 c (by decide) W
theorem wp3 (W : World) (A : Option Addr) (c : Nat) (hc : 20 ≤ c) (hr : Row W W.heap.size A 21 (fun j => .int .u8 (wz j))) : Calls Try.prog 42 #[.slice A 20 c] W fun e w' =>
    ∃ P c, e = .returned (.tuple #[.agg #[.int .i64 0, .int .i64 0, .int .i64 0, .int .i64 0, .int .i64 0, .int .i64 0, .int .i64 0, .int .i64 0, .int .i64 0], .slice P 0 c, .int .i64 9]) ∧ Below W.heap.size W w' := by
  refine (parse_any A 20 c wz hc (fun j hj => wz_byte j (by omega)) W (hr.take (by decide))).mono ?_
  rintro e w' ⟨P, c, rfl, hc, ho, hb⟩
  have e0 : pErr 20 wz = 9 := by decide +kernel
  have e1 : pLen 20 wz = 0 := by decide +kernel
  have e2 : hdr (pHdr 20 wz) = #[.int .i64 0, .int .i64 0, .int .i64 0, .int .i64 0, .int .i64 0, .int .i64 0, .int .i64 0, .int .i64 0, .int .i64 0] := by kernel_rfl
  exact ⟨P, c, by rw [e0, e1, e2], hb⟩

theorem nine_apart {a0 a1 a2 a3 a4 a5 a6 a7 a8 : Int} {v : Nat → Int} : ∀ i : Nat, i < (#[.int .i64 a0, .int .i64 a1, .int .i64 a2, .int .i64 a3, .int .i64 a4, .int .i64 a5, .int .i64 a6, .int .i64 a7, .int .i64 a8] : Array Value).size → ∀ j, (#[.int .i64 a0, .int .i64 a1, .int .i64 a2, .int .i64 a3, .int .i64 a4, .int .i64 a5, .int .i64 a6, .int .i64 a7, .int .i64 a8] : Array Value)[i]? ≠ some (.int .u8 (v j)) := by
  intro i hi j
  have h9 : i < 9 := hi
  match i, h9 with
  | 0, _ => simp
  | 1, _ => simp
  | 2, _ => simp
  | 3, _ => simp
  | 4, _ => simp
  | 5, _ => simp
  | 6, _ => simp
  | 7, _ => simp
  | 8, _ => simp

end Go.Proofs.Ytofaghpflmeblaa
namespace Go.Proofs.Ytofaghpflmeblaa
open Go.ChangeShapes Go.WideShapes Go.ChangeAt Go.RowKit

set_option maxRecDepth 100000 in
theorem open_hdr {H : Type} {enc : TypeId × Value → H} {w : World} {base : Nat} {spare : Nat → Bool} {held : Bool} {r : Reach} {b0 : Nat} {v : Value} {d : DataW H} {p : List MemPlace}
    (hv : Value.okWide Try.prog w r b0 36 v) (h : DataW.Trod enc Try.prog w base spare held 36 v d p) : ∃ x : Nat → Int, v = .agg (hdr x) := by
  obtain ⟨cs, rfl, hsz⟩ := okWide_struct Try.underlying36 hv
  have hc : Try.prog.cellsOf 36 = 9 := by kernel_rfl
  have h9 : cs.size = 9 := hsz.trans hc
  obtain ⟨fuel, hf⟩ := h
  obtain ⟨xs, n, _, _, _, hlen, hg⟩ := DataW.trod_struct Try.underlying36 hf
  have c3 : Try.prog.cellsOf 3 = 1 := by kernel_rfl
  have hx9 : xs.length = 9 := hlen
  have key : ∀ (i : Nat), i < 9 → DataW.trod enc Try.prog w base spare held n 3 (List.take 1 (List.drop i (Value.agg cs).cells.toList)) = xs[i]? → ∃ a, cs[i]? = some (Value.int .i64 a) := by
    intro i hi h1
    rw [List.getElem?_eq_getElem (by omega)] at h1
    obtain ⟨a, e, _, _⟩ := DataW.trod_int Try.underlying3 h1
    refine ⟨a, ?_⟩
    have h2 := congrArg List.head? e
    simp [Value.cells, List.head?_take] at h2
    exact h2
  obtain ⟨a0, e0⟩ := key 0 (by decide) (by have h1 : DataW.trod enc Try.prog w base spare held n 3 (List.take (Try.prog.cellsOf 3) (List.drop 0 (Value.agg cs).cells.toList)) = xs[0]? := hg 0 _ rfl; rwa [c3] at h1)
  obtain ⟨a1, e1⟩ := key 1 (by decide) (by have h1 : DataW.trod enc Try.prog w base spare held n 3 (List.take (Try.prog.cellsOf 3) (List.drop 1 (Value.agg cs).cells.toList)) = xs[1]? := hg 1 _ rfl; rwa [c3] at h1)
  obtain ⟨a2, e2⟩ := key 2 (by decide) (by have h1 : DataW.trod enc Try.prog w base spare held n 3 (List.take (Try.prog.cellsOf 3) (List.drop 2 (Value.agg cs).cells.toList)) = xs[2]? := hg 2 _ rfl; rwa [c3] at h1)
  obtain ⟨a3, e3⟩ := key 3 (by decide) (by have h1 : DataW.trod enc Try.prog w base spare held n 3 (List.take (Try.prog.cellsOf 3) (List.drop 3 (Value.agg cs).cells.toList)) = xs[3]? := hg 3 _ rfl; rwa [c3] at h1)
  obtain ⟨a4, e4⟩ := key 4 (by decide) (by have h1 : DataW.trod enc Try.prog w base spare held n 3 (List.take (Try.prog.cellsOf 3) (List.drop 4 (Value.agg cs).cells.toList)) = xs[4]? := hg 4 _ rfl; rwa [c3] at h1)
  obtain ⟨a5, e5⟩ := key 5 (by decide) (by have h1 : DataW.trod enc Try.prog w base spare held n 3 (List.take (Try.prog.cellsOf 3) (List.drop 5 (Value.agg cs).cells.toList)) = xs[5]? := hg 5 _ rfl; rwa [c3] at h1)
  obtain ⟨a6, e6⟩ := key 6 (by decide) (by have h1 : DataW.trod enc Try.prog w base spare held n 3 (List.take (Try.prog.cellsOf 3) (List.drop 6 (Value.agg cs).cells.toList)) = xs[6]? := hg 6 _ rfl; rwa [c3] at h1)
  obtain ⟨a7, e7⟩ := key 7 (by decide) (by have h1 : DataW.trod enc Try.prog w base spare held n 3 (List.take (Try.prog.cellsOf 3) (List.drop 7 (Value.agg cs).cells.toList)) = xs[7]? := hg 7 _ rfl; rwa [c3] at h1)
  obtain ⟨a8, e8⟩ := key 8 (by decide) (by have h1 : DataW.trod enc Try.prog w base spare held n 3 (List.take (Try.prog.cellsOf 3) (List.drop 8 (Value.agg cs).cells.toList)) = xs[8]? := hg 8 _ rfl; rwa [c3] at h1)
  refine ⟨fun j => ([a0, a1, a2, a3, a4, a5, a6, a7, a8] : List Int).getD j 0, ?_⟩
  have : cs = hdr (fun j => ([a0, a1, a2, a3, a4, a5, a6, a7, a8] : List Int).getD j 0) := by
    apply Array.ext_getElem?
    intro i
    by_cases hi : i < 9
    · match i, hi with
      | 0, _ => exact e0
      | 1, _ => exact e1
      | 2, _ => exact e2
      | 3, _ => exact e3
      | 4, _ => exact e4
      | 5, _ => exact e5
      | 6, _ => exact e6
      | 7, _ => exact e7
      | 8, _ => exact e8
    · rw [Array.getElem?_eq_none (by omega), Array.getElem?_eq_none (by simp [hdr]; omega)]
  rw [this]
end Go.Proofs.Ytofaghpflmeblaa
namespace Go.Proofs.Ytofaghpflmeblaa
open Go.RowKit

attribute [local go_sem ↓] Go.wp_at_zero Go.wp_at_succ

theorem static_ok (h0 h1 h2 h3 h4 h5 h6 h7 h8 : Int) (w : World) :
    Calls Try.prog 45 #[.agg #[.int .i64 h0, .int .i64 h1, .int .i64 h2, .int .i64 h3, .int .i64 h4, .int .i64 h5, .int .i64 h6, .int .i64 h7, .int .i64 h8]] w fun e w' => e = .returned (.agg #[.int .i64 h0, .int .i64 h1, .int .i64 h2, .int .i64 h3, .int .i64 h4]) ∧ Below w.heap.size w w' := by
  go_enter Try.func45, Try.ntmps45
  go_wp2
  exact bodyPost_ret (v := .agg #[.int .i64 h0, .int .i64 h1, .int .i64 h2, .int .i64 h3, .int .i64 h4]) (by simp [results, Try.results45, go_sem]) rfl ⟨rfl, ((Below.refl _ w).alloc (Nat.le_refl _) _).alloc (by simp) _⟩
theorem join_ok (h0 h1 h2 h3 h4 h5 h6 h7 h8 : Int) (w : World) :
    Calls Try.prog 80 #[.agg #[.int .i64 h0, .int .i64 h1, .int .i64 h2, .int .i64 h3, .int .i64 h4], .int .i64 h5, .int .i64 h6, .int .i64 h7, .int .i64 h8] w fun e w' => e = .returned (.agg #[.int .i64 h0, .int .i64 h1, .int .i64 h2, .int .i64 h3, .int .i64 h4, .int .i64 h5, .int .i64 h6, .int .i64 h7, .int .i64 h8]) ∧ Below w.heap.size w w' := by
  go_enter Try.func80, Try.ntmps80
  go_wp2
  exact bodyPost_ret (v := .agg #[.int .i64 h0, .int .i64 h1, .int .i64 h2, .int .i64 h3, .int .i64 h4, .int .i64 h5, .int .i64 h6, .int .i64 h7, .int .i64 h8]) (by simp [results, Try.results80, go_sem]) rfl ⟨rfl, ((Below.refl _ w).alloc (Nat.le_refl _) _).alloc (by simp) _⟩
theorem Blk.five {w : World} {g : Nat} {t : TypeId} {a0 a1 a2 a3 a4 : Value} (h : Blk w g t #[a0, a1, a2, a3, a4]) :
    w.cell? ⟨g, 0, none⟩ = some a0 ∧ w.cell? ⟨g, 1, none⟩ = some a1 ∧ w.cell? ⟨g, 2, none⟩ = some a2 ∧ w.cell? ⟨g, 3, none⟩ = some a3 ∧ w.cell? ⟨g, 4, none⟩ = some a4 :=
  ⟨h.cell 0, h.cell 1, h.cell 2, h.cell 3, h.cell 4⟩

/-- the world behind Static, and the cells that are read from it on -/
def JCells (H G : Nat) (h0 h1 h2 h3 h4 h5 h6 h7 h8 : Int) (w' : World) : Prop :=
  Blk w' H 36 #[.int .i64 h0, .int .i64 h1, .int .i64 h2, .int .i64 h3, .int .i64 h4, .int .i64 h5, .int .i64 h6, .int .i64 h7, .int .i64 h8] ∧ Blk w' G 54 #[.int .i64 h0, .int .i64 h1, .int .i64 h2, .int .i64 h3, .int .i64 h4]

end Go.Proofs.Ytofaghpflmeblaa
namespace Go.Proofs.Ytofaghpflmeblaa
open Go.RowKit

attribute [local go_sem ↓] Go.wp_at_zero Go.wp_at_succ

/-- the error and the length of Build -/
def bErr (h : Nat → Int) (n : Nat) : Int := if validB (withLen h (20 + n)) = true then 0 else 2
def bLen (h : Nat → Int) (n : Nat) : Nat := if validB (withLen h (20 + n)) = true then 20 + n else 0
def BuildAny (h : Nat → Int) (z : Nat → Int) (n : Nat) (w : World) (e : Ending) (w' : World) : Prop :=
  ∃ A c, e = .returned (.tuple #[.slice A (bLen h n : Nat) c, .int .i64 (bErr h n)]) ∧ bLen h n ≤ c ∧ Row w' w'.heap.size A (bLen h n) (fun j => .int .u8 (pktAt (withLen h (20 + n)) z j)) ∧ Fresh w.heap.size A ∧ Below w.heap.size w w'
theorem buildAny_good {h : Nat → Int} {z : Nat → Int} {n : Nat} {w : World} {e : Ending} {w' : World} (hv : validB (withLen h (20 + n)) = true) (H : BuildEnd h z n w e w') : BuildAny h z n w e w' := by
  obtain ⟨A, c, rfl, hc, ho, hb⟩ := H
  have hl : bLen h n = 20 + n := if_pos hv
  have he : bErr h n = 0 := if_pos hv
  exact ⟨A, c, by rw [hl, he], by omega, by rw [hl]; exact (own_map_row ho).2, (own_map_row ho).1, hb⟩
theorem buildAny_bad {h : Nat → Int} {z : Nat → Int} {n : Nat} {w : World} {e : Ending} {w' : World} (hv : validB (withLen h (20 + n)) = false) (H : e = .returned (.tuple #[.slice none 0 0, .int .i64 2]) ∧ Below w.heap.size w w') : BuildAny h z n w e w' := by
  obtain ⟨rfl, hb⟩ := H
  have hl : bLen h n = 0 := if_neg (by rw [hv]; decide)
  have he : bErr h n = 2 := if_neg (by rw [hv]; decide)
  exact ⟨none, 0, by rw [hl, he], by omega, by rw [hl]; exact Row.nil, fresh_none _, hb⟩
theorem build_any (h : Nat → Int) (A : Option Addr) (n c : Nat) (z : Nat → Int) (hn : n ≤ 1000000) (w : World) (hr : Row w w.heap.size A n (fun j => .int .u8 (z j))) :
    Calls Try.prog 79 #[.agg (hdr h), .slice A n c] w (BuildAny h z n w) := by
  by_cases hv : validB (withLen h (20 + n)) = true
  · exact (build_good h A n c z hn hv w hr).mono fun _ _ H => buildAny_good hv H
  · have hv2 : validB (withLen h (20 + n)) = false := by simpa using hv
    exact (build_bad h A n c hn hv2 w).mono fun _ _ H => buildAny_bad hv2 H
theorem rbuild_any (h : Nat → Int) (A : Option Addr) (n c : Nat) (z : Nat → Int) (hn : n ≤ 1000000) (w : World) (hr : Row w w.heap.size A n (fun j => .int .u8 (z j))) :
    Calls Try.prog 27 #[.agg (hdr h), .slice A n c] w (BuildAny h z n w) := by
  by_cases hv : validB (withLen h (20 + n)) = true
  · exact (rbuild_good h A n c z hn hv w hr).mono fun _ _ H => buildAny_good hv H
  · have hv2 : validB (withLen h (20 + n)) = false := by simpa using hv
    exact (rbuild_bad h A n c hn hv2 w).mono fun _ _ H => buildAny_bad hv2 H
theorem bLen_le (h : Nat → Int) (n : Nat) : bLen h n ≤ 20 + n := by unfold bLen; split <;> omega

end Go.Proofs.Ytofaghpflmeblaa
namespace Go.Proofs.Ytofaghpflmeblaa
open Go.RowKit

attribute [local go_sem ↓] Go.wp_at_zero Go.wp_at_succ

def RParseEnd (n : Nat) (z : Nat → Int) (w : World) (e : Ending) (w' : World) : Prop :=
  ∃ P c, e = .returned (.tuple #[.agg (hdr (pHdr n z)), .slice P (pLen n z : Nat) c, .int .i64 (pErr n z)]) ∧ pLen n z ≤ c ∧
    Row w' w'.heap.size P (pLen n z) (fun j => .int .u8 (z (20 + j))) ∧ Below w.heap.size w w'
def RBadEnd (w : World) (n : Int) (e : Ending) (w' : World) : Prop :=
  e = .returned (.tuple #[.agg (hdr (fun _ => 0)), .slice none 0 0, .int .i64 n]) ∧ Below w.heap.size w w'
theorem RParseEnd.bad {n : Nat} {z : Nat → Int} {w : World} {e : Ending} {w' : World} {x : Int} (h : RBadEnd w x e w') (hx : pErr n z = x) (h0 : x ≠ 0) : RParseEnd n z w e w' := by
  obtain ⟨rfl, hb⟩ := h
  subst hx
  have hl : pLen n z = 0 := by unfold pLen; rw [if_neg h0]
  refine ⟨none, 0, ?_, by omega, ?_, hb⟩
  · rw [pHdr_zero n z h0, hl]
  · rw [hl]; exact Row.nil

set_option maxRecDepth 100000 in
set_option maxHeartbeats 400000 in
theorem rparse_short (A : Option Addr) (n c : Nat) (hn : n < 20) (w : World) :
    Calls Try.prog 60 #[.slice A n c] w (RBadEnd w 5) := by
  have hn20 : ((n : Int) < 20) := by omega
  go_enter Try.func60, Try.ntmps60
  go_wp2
  exact bodyPost_ret (v := .tuple #[.agg (hdr (fun _ => 0)), .slice none 0 0, .int .i64 5]) (by simp [results, Try.results60, go_sem, hdr]) rfl ⟨rfl, ((Below.refl _ w).alloc (Nat.le_refl _) _).alloc (by simp) _⟩

set_option maxRecDepth 100000 in
set_option maxHeartbeats 400000 in
theorem rparse_long (A : Option Addr) (n c : Nat) (hn : 9000 < n) (w : World) :
    Calls Try.prog 60 #[.slice A n c] w (RBadEnd w 4) := by
  have hn20 : ¬ ((n : Int) < 20) := by omega
  have hn9 : (9000 : Int) < (n : Int) := by omega
  go_enter Try.func60, Try.ntmps60
  go_wp2
  exact bodyPost_ret (v := .tuple #[.agg (hdr (fun _ => 0)), .slice none 0 0, .int .i64 4]) (by simp [results, Try.results60, go_sem, hdr]) rfl ⟨rfl, ((Below.refl _ w).alloc (Nat.le_refl _) _).alloc (by simp) _⟩

theorem sub_row2 {W : World} {B n lb lo lo2 : Nat} {z : Nat → Int} (h : Row W B (some ⟨lb, lo, none⟩) n (fun j => .int .u8 (z j))) (hl : 20 < n → lo2 = lo + 20) (hB : B ≤ W.heap.size) : Row W W.heap.size (some ⟨lb, lo2, none⟩) (n - 20) (fun j => .int .u8 (z (20 + j))) := fun hn => by
  obtain ⟨b, off, e, hb, hc⟩ := h (by omega)
  cases e
  have := hl (by omega)
  subst this
  exact ⟨lb, lo + 20, rfl, by omega, fun j hj => by rw [show lo + 20 + j = lo + (20 + j) by omega]; exact hc (20 + j) (by omega)⟩
theorem slice20r (lb lo n c : Nat) (h20 : 20 ≤ n) (hnc : n ≤ c) : ∃ lo2, (∀ w, (Instr.slice 24 (.slice (some ⟨lb, lo, none⟩) n c) (some (.int .i64 20)) none none).run Try.prog w = .ok (.slice (some ⟨lb, lo2, none⟩) (n - 20) (c - 20)) w) ∧ (20 < n → lo2 = lo + 20) := by
  have hm0 : (20 : Int) ≤ (n : Int) := by omega
  by_cases hc : c = 20
  · subst hc
    exact ⟨lo, fun w => by simp [go_sem, hm0], fun h => by omega⟩
  · exact ⟨lo + 20, fun w => by simp [go_sem, hm0, hc], fun _ => rfl⟩

set_option maxRecDepth 100000 in
set_option maxHeartbeats 3200000 in
theorem rparse_mid (A : Option Addr) (n c : Nat) (z : Nat → Int) (hn : 20 ≤ n) (hm : n ≤ 9000) (hnc : n ≤ c) (hz : ∀ j, j < n → 0 ≤ z j ∧ z j < 256) (w : World) (hr : Row w w.heap.size A n (fun j => .int .u8 (z j))) :
    Calls Try.prog 60 #[.slice A n c] w (RParseEnd n z w) := by
  obtain ⟨lb, lo, rfl, hlb, _⟩ := hr (by omega)
  have HR := Lib.hid hr
  have HZ := Lib.hid hz
  have hn20 : ¬ ((n : Int) < 20) := by omega
  have hn9 : ¬ (9000 : Int) < (n : Int) := by omega
  obtain ⟨i0, hi0, hz0, hz1, hz2⟩ := info_parts Try.infoInt
  clear hr hz
  go_enter Try.func60, Try.ntmps60
  go_wp2_with (go_at_call 77; refine (widths42_ok _).mono ?_; rintro e w2 ⟨rfl, rfl⟩)
  obtain ⟨W1, hW1⟩ : ∃ W1, W1 = ((w.alloc (.cells (hdr (fun _ => 0)) 36)).alloc (.cells (hdr (fun _ => 0)) 36)).alloc (.cells hwds 3) := ⟨_, rfl⟩
  have HB0 := Lib.hid (show Below w.heap.size w W1 by rw [hW1]; exact ((((Below.refl _ w).alloc (Nat.le_refl _) _).alloc (by simp) _).alloc (by simp; omega) _))
  have HH := Lib.hid (show Blk W1 w.heap.size 36 (hdr (fun _ => 0)) by rw [hW1]; exact ((Blk.new w _ _).alloc _).alloc _)
  have HH2 := Lib.hid (show Blk W1 (w.heap.size + 1) 36 (hdr (fun _ => 0)) by rw [hW1]; have := (Blk.new (w.alloc (.cells (hdr (fun _ => 0)) 36)) 36 (hdr (fun _ => 0))).alloc (.cells hwds 3); rw [World.size_alloc] at this; exact this)
  have HBW := Lib.hid (show Blk W1 (w.heap.size + 1 + 1) 3 hwds by rw [hW1]; have := Blk.new ((w.alloc (.cells (hdr (fun _ => 0)) 36)).alloc (.cells (hdr (fun _ => 0)) 36)) 3 hwds; rw [World.size_alloc, World.size_alloc] at this; exact this)
  have hs1 : W1.heap.size = w.heap.size + 1 + 1 + 1 := by rw [hW1]; simp
  change Code.wp _ _ _ _ (((w.alloc (.cells (hdr (fun _ => 0)) 36)).alloc (.cells (hdr (fun _ => 0)) 36)).alloc (.cells hwds 3))
  rw [← hW1]
  have HS1 := Lib.hid hs1
  have hsz1 : w.heap.size + 1 + 1 < W1.heap.size := by omega
  clear hW1 hs1
  go_loopw [7, 8, 9] (fun v7 v8 v9 wr => ∃ k : Nat, k ≤ 10 ∧ v9 = .int .i64 k ∧ v8 = .int .i64 (offs k : Nat) ∧ W1.heap.size ≤ wr.heap.size ∧ wr.ownsRow W1.heap.size 3 1 v7 k ((List.range k).map fun j => .int .i64 ((fieldv z j : Nat) : Int)) ∧ Below W1.heap.size W1 wr) (fun _ _ v _ => 10 - (intOf v).toNat)
  case atStart => exact ⟨0, by omega, rfl, rfl, Nat.le_refl _, World.ownsRow_nil _ _ _ _, Below.refl _ _⟩
  case round =>
    obtain ⟨k, hk, rfl, rfl, hsz, hown, hW⟩ := hrel
    by_cases hlt : k < 10
    · have cw : wr.cell? ⟨w.heap.size + 1 + 1, k, none⟩ = some (.int .i64 (pwd k : Int)) := (hW.cell (p := ⟨w.heap.size + 1 + 1, k, none⟩) hsz1).trans ((HBW.out.cell k).trans (hwds_at k hlt))
      obtain ⟨p1, p2⟩ := pwd_le k hlt
      have hoff := offs_le k hlt
      have HFV := Lib.hid (show fieldv z k = getv z (offs k) (pwd k) by unfold fieldv; rw [Nat.zero_add, so_offs])
      obtain ⟨o, ho⟩ : ∃ o, o = offs k := ⟨_, rfl⟩
      obtain ⟨wd, hwd⟩ : ∃ wd, wd = pwd k := ⟨_, rfl⟩
      have HO := Lib.hid (show offs (k + 1) = o + wd by rw [ho, hwd]; rfl)
      rw [← ho, ← hwd] at HFV
      rw [← ho] at ⊢
      rw [← ho, ← hwd] at hoff
      rw [← hwd] at cw p1 p2
      have g1 : (0 : Int) ≤ (k : Int) := by omega
      have g2 : (k : Int) < 10 := by omega
      have HOwn := Lib.hid hown
      have HW := Lib.hid hW
      have HSZ := Lib.hid hsz
      have HRr := Lib.hid ((HR.out.below HB0.out).keep (w' := wr) fun p hp => hW.cell (by have := HB0.out.size; omega))
      clear ho hwd hown hW hsz
      go_wp2
      go_loop [8, 10, 11] (fun v8 v10 v11 => ∃ i : Nat, i ≤ wd ∧ v11 = .int .i64 i ∧ v8 = .int .i64 ((o + i : Nat) : Int) ∧ v10 = .int .i64 ((getv z o i : Nat) : Int)) (fun _ _ v => wd - (intOf v).toNat)
      case atStart => exact ⟨0, Nat.zero_le _, rfl, rfl, rfl⟩
      case round =>
        obtain ⟨i, hi, rfl, rfl, rfl⟩ := hrel
        by_cases hlt2 : i < wd
        · obtain ⟨m, hm2⟩ : ∃ m, m = o + i := ⟨_, rfl⟩
          rw [← hm2]
          have hm160 : m < 160 := by omega
          have hm8 : m / 8 < n := by omega
          have hm8i : (m : Int) / 8 < (n : Int) := by omega
          obtain ⟨b1, o1, e1, _, hlc⟩ := HRr.out (by omega)
          cases e1
          obtain ⟨x, hx⟩ : ∃ x : Nat, z (m / 8) = (x : Int) := ⟨(z (m / 8)).toNat, by have := HZ.out (m / 8) hm8; omega⟩
          have hx256 : x < 256 := by have := HZ.out (m / 8) hm8; omega
          have hci : wr.cell? ⟨lb, lo + m / 8, none⟩ = some (.int .u8 (x : Int)) := by rw [← hx]; exact hlc _ hm8
          have hvl : getv z o i < 4294967296 := Nat.lt_of_lt_of_le (getv_lt z o i) (Nat.le_trans (Nat.pow_le_pow_right (by decide) (by omega : i ≤ 32)) (by decide))
          have hgs : getv z o (i + 1) = 2 * getv z o i + x / 2 ^ (7 - m % 8) % 2 := by
            show 2 * getv z o i + (if HM.hb z (o + i) then 1 else 0) = _
            rw [← hm2]
            unfold HM.hb
            rw [hx, Int.toNat_natCast]
            by_cases hbb : x / 2 ^ (7 - m % 8) % 2 = 1
            · simp [hbb]
            · have : x / 2 ^ (7 - m % 8) % 2 = 0 := by omega
              simp [this]
          obtain ⟨v, hv⟩ : ∃ v, v = getv z o i := ⟨_, rfl⟩
          rw [← hv] at hvl hgs ⊢
          have HGS := Lib.hid hgs
          have HM2 := Lib.hid hm2
          clear hlc hx hgs hv hm2
          have k7 : (7 - (m : Int) % 8).toNat = 7 - m % 8 := by omega
          have k6 : (0 : Int) ≤ 7 - (m : Int) % 8 := by omega
          have hq : (x : Int) / 2 ^ (7 - m % 8) = ((x / 2 ^ (7 - m % 8) : Nat) : Int) := by simp
          have hqx : x / 2 ^ (7 - m % 8) ≤ x := Nat.div_le_self _ _
          obtain ⟨q, hq2⟩ : ∃ q, q = x / 2 ^ (7 - m % 8) := ⟨_, rfl⟩
          rw [← hq2] at hq hqx
          have HQ := Lib.hid hq2
          clear hq2
          go_wp2
          go_round
          case rel => exact ⟨i + 1, by omega, by go_num, by rw [HM2.out]; go_num, by rw [HGS.out, ← HQ.out]; go_num⟩
          case measure => simp [intOf]; omega
        · obtain rfl : i = wd := by omega
          go_wp2_with (at_builtin; refine wpList_append_one _ rfl _ _ 48 rfl W1.heap.size 3 i0 (.int .i64 0) 8 Try.underlying48 hi0 hz0 hz1 hz2 rfl _ _ _ rfl HOwn.out _ rfl rfl (by unfold maxLen; omega) (by omega) HSZ.out ?_; intro v' w2 hown' hg2; have HOW2 := Lib.hid hown'; have HG2 := Lib.hid hg2; clear hown' hg2)
          go_roundw
          case rel => exact ⟨k + 1, by omega, by go_num, by rw [HO.out]; go_num, Nat.le_trans HSZ.out HG2.out.size, by rw [List.range_succ, List.map_append]; simpa [HFV.out] using HOW2.out, HW.out.trans HG2.out⟩
          case measure => simp [intOf]; omega
    · obtain rfl : k = 10 := by omega
      obtain ⟨g7, c7, rfl, hg7, hlt7, hc7⟩ := own_room hown (by decide)
      have y0 : wr.cell? ⟨g7, 0, none⟩ = some (.int .i64 ((fieldv z 0 : Nat) : Int)) := by rw [hown.cellAt 0 (by decide)]; rfl
      have y1 : wr.cell? ⟨g7, 1, none⟩ = some (.int .i64 ((fieldv z 1 : Nat) : Int)) := by rw [hown.cellAt 1 (by decide)]; rfl
      have y2 : wr.cell? ⟨g7, 2, none⟩ = some (.int .i64 ((fieldv z 2 : Nat) : Int)) := by rw [hown.cellAt 2 (by decide)]; rfl
      have y3 : wr.cell? ⟨g7, 3, none⟩ = some (.int .i64 ((fieldv z 3 : Nat) : Int)) := by rw [hown.cellAt 3 (by decide)]; rfl
      have y4 : wr.cell? ⟨g7, 4, none⟩ = some (.int .i64 ((fieldv z 4 : Nat) : Int)) := by rw [hown.cellAt 4 (by decide)]; rfl
      have y5 : wr.cell? ⟨g7, 5, none⟩ = some (.int .i64 ((fieldv z 5 : Nat) : Int)) := by rw [hown.cellAt 5 (by decide)]; rfl
      have y6 : wr.cell? ⟨g7, 6, none⟩ = some (.int .i64 ((fieldv z 6 : Nat) : Int)) := by rw [hown.cellAt 6 (by decide)]; rfl
      have y7 : wr.cell? ⟨g7, 7, none⟩ = some (.int .i64 ((fieldv z 7 : Nat) : Int)) := by rw [hown.cellAt 7 (by decide)]; rfl
      have y8 : wr.cell? ⟨g7, 8, none⟩ = some (.int .i64 ((fieldv z 8 : Nat) : Int)) := by rw [hown.cellAt 8 (by decide)]; rfl
      have y9 : wr.cell? ⟨g7, 9, none⟩ = some (.int .i64 ((fieldv z 9 : Nat) : Int)) := by rw [hown.cellAt 9 (by decide)]; rfl
      have HH9 := Lib.hid (HH.out.below hW (by omega))
      have HX9 := Lib.hid (HH2.out.below hW (by omega))
      obtain ⟨x0, x1, x2, x3, x4, x5, x6, x7, x8⟩ := Blk.nine (show Blk wr (w.heap.size + 1) 36 #[.int .i64 0, .int .i64 0, .int .i64 0, .int .i64 0, .int .i64 0, .int .i64 0, .int .i64 0, .int .i64 0, .int .i64 0] from HX9.out)
      have hFW := Lib.hid (HB0.out.trans (hW.mono (by omega)))
      have HRr := Lib.hid ((HR.out.below HB0.out).keep (w' := wr) fun p hp => hW.cell (by have := HB0.out.size; omega))
      have HOwn := Lib.hid hown
      have HW := Lib.hid hW
      have HSZ := Lib.hid hsz
      clear hown hW hsz
      have o0 : wr.cell? ⟨w.heap.size, 0, none⟩ = some (.int .i64 0) := HH9.out.cell 0
      have of0 : wr.frozen? ⟨w.heap.size, 0, none⟩ = false := HH9.out.frozen 0
      have oe0 : wr.setCell ⟨w.heap.size, 0, none⟩ (.int .i64 0) = wr := setCell_same HH9.out rfl
      have o1 : wr.cell? ⟨w.heap.size, 1, none⟩ = some (.int .i64 0) := HH9.out.cell 1
      have of1 : wr.frozen? ⟨w.heap.size, 1, none⟩ = false := HH9.out.frozen 1
      have oe1 : wr.setCell ⟨w.heap.size, 1, none⟩ (.int .i64 0) = wr := setCell_same HH9.out rfl
      have o2 : wr.cell? ⟨w.heap.size, 2, none⟩ = some (.int .i64 0) := HH9.out.cell 2
      have of2 : wr.frozen? ⟨w.heap.size, 2, none⟩ = false := HH9.out.frozen 2
      have oe2 : wr.setCell ⟨w.heap.size, 2, none⟩ (.int .i64 0) = wr := setCell_same HH9.out rfl
      have o3 : wr.cell? ⟨w.heap.size, 3, none⟩ = some (.int .i64 0) := HH9.out.cell 3
      have of3 : wr.frozen? ⟨w.heap.size, 3, none⟩ = false := HH9.out.frozen 3
      have oe3 : wr.setCell ⟨w.heap.size, 3, none⟩ (.int .i64 0) = wr := setCell_same HH9.out rfl
      have o4 : wr.cell? ⟨w.heap.size, 4, none⟩ = some (.int .i64 0) := HH9.out.cell 4
      have of4 : wr.frozen? ⟨w.heap.size, 4, none⟩ = false := HH9.out.frozen 4
      have oe4 : wr.setCell ⟨w.heap.size, 4, none⟩ (.int .i64 0) = wr := setCell_same HH9.out rfl
      have o5 : wr.cell? ⟨w.heap.size, 5, none⟩ = some (.int .i64 0) := HH9.out.cell 5
      have of5 : wr.frozen? ⟨w.heap.size, 5, none⟩ = false := HH9.out.frozen 5
      have oe5 : wr.setCell ⟨w.heap.size, 5, none⟩ (.int .i64 0) = wr := setCell_same HH9.out rfl
      have o6 : wr.cell? ⟨w.heap.size, 6, none⟩ = some (.int .i64 0) := HH9.out.cell 6
      have of6 : wr.frozen? ⟨w.heap.size, 6, none⟩ = false := HH9.out.frozen 6
      have oe6 : wr.setCell ⟨w.heap.size, 6, none⟩ (.int .i64 0) = wr := setCell_same HH9.out rfl
      have o7 : wr.cell? ⟨w.heap.size, 7, none⟩ = some (.int .i64 0) := HH9.out.cell 7
      have of7 : wr.frozen? ⟨w.heap.size, 7, none⟩ = false := HH9.out.frozen 7
      have oe7 : wr.setCell ⟨w.heap.size, 7, none⟩ (.int .i64 0) = wr := setCell_same HH9.out rfl
      have o8 : wr.cell? ⟨w.heap.size, 8, none⟩ = some (.int .i64 0) := HH9.out.cell 8
      have of8 : wr.frozen? ⟨w.heap.size, 8, none⟩ = false := HH9.out.frozen 8
      have oe8 : wr.setCell ⟨w.heap.size, 8, none⟩ (.int .i64 0) = wr := setCell_same HH9.out rfl
      by_cases h5 : fieldv z 0 = 5
      · rw [h5] at y0
        by_cases h9 : fieldv z 9 = n
        · have Y9 := Lib.hid y9
          rw [h9] at y9
          obtain ⟨lo2, hsl, hlo2⟩ := slice20r lb lo n c hn hnc
          have HLO := Lib.hid hlo2
          have H5 := Lib.hid h5
          have H9 := Lib.hid h9
          clear hlo2 h5 h9 oe0 oe1 oe2 oe3 oe4 oe5 oe6 oe7 oe8
          go_wp2
          clear y9
          have hng1 : g7 ≠ w.heap.size := by omega
          have hng2 : w.heap.size ≠ g7 := by omega
          have y9 := Y9.out
          go_region_held3 (fun w' => w'.cell? ⟨g7, 1, none⟩ = some (.int .i64 ((fieldv z 1 : Nat) : Int)) ∧ w'.cell? ⟨g7, 2, none⟩ = some (.int .i64 ((fieldv z 2 : Nat) : Int)) ∧ w'.cell? ⟨g7, 3, none⟩ = some (.int .i64 ((fieldv z 3 : Nat) : Int)) ∧ w'.cell? ⟨g7, 4, none⟩ = some (.int .i64 ((fieldv z 4 : Nat) : Int)) ∧ w'.cell? ⟨g7, 5, none⟩ = some (.int .i64 ((fieldv z 5 : Nat) : Int)) ∧ w'.cell? ⟨g7, 6, none⟩ = some (.int .i64 ((fieldv z 6 : Nat) : Int)) ∧ w'.cell? ⟨g7, 7, none⟩ = some (.int .i64 ((fieldv z 7 : Nat) : Int)) ∧ w'.cell? ⟨g7, 8, none⟩ = some (.int .i64 ((fieldv z 8 : Nat) : Int)) ∧ w'.cell? ⟨g7, 9, none⟩ = some (.int .i64 ((fieldv z 9 : Nat) : Int))) (go_keep) ((fail))
          all_goals go_wp2
          have hE : pErr n z = 0 := by unfold pErr; rw [if_neg (by omega), if_neg (by omega), if_pos ⟨H5.out, H9.out⟩]
          have hL : pLen n z = n - 20 := if_pos hE
          have hHd : hdr (pHdr n z) = #[.int .i64 ((fieldv z 1 : Nat) : Int), .int .i64 ((fieldv z 2 : Nat) : Int), .int .i64 ((fieldv z 3 : Nat) : Int), .int .i64 ((fieldv z 4 : Nat) : Int), .int .i64 ((fieldv z 5 : Nat) : Int), .int .i64 ((fieldv z 6 : Nat) : Int), .int .i64 ((fieldv z 7 : Nat) : Int), .int .i64 ((fieldv z 8 : Nat) : Int), .int .i64 ((fieldv z 9 : Nat) : Int)] := (pHdr_good n z hE).trans rfl
          refine bodyPost_ret (v := .tuple #[.agg #[.int .i64 ((fieldv z 1 : Nat) : Int), .int .i64 ((fieldv z 2 : Nat) : Int), .int .i64 ((fieldv z 3 : Nat) : Int), .int .i64 ((fieldv z 4 : Nat) : Int), .int .i64 ((fieldv z 5 : Nat) : Int), .int .i64 ((fieldv z 6 : Nat) : Int), .int .i64 ((fieldv z 7 : Nat) : Int), .int .i64 ((fieldv z 8 : Nat) : Int), .int .i64 ((fieldv z 9 : Nat) : Int)], .slice (some ⟨lb, lo2, none⟩) (n - 20 : Nat) (c - 20 : Nat), .int .i64 0]) (by simp [results, Try.results60, go_sem, o0, o1, o2, o3, o4, o5, o6, o7, o8]) rfl ⟨some ⟨lb, lo2, none⟩, (c - 20 : Nat), by rw [hHd, hL, hE], by rw [hL]; omega, ?_, ?_⟩
          · rw [hL]
            exact sub_row2 ((((((((((HRr.out).setCell (p := ⟨w.heap.size, 0, none⟩) (Nat.le_refl _) (.int .i64 ((fieldv z 1 : Nat) : Int))).setCell (p := ⟨w.heap.size, 1, none⟩) (Nat.le_refl _) (.int .i64 ((fieldv z 2 : Nat) : Int))).setCell (p := ⟨w.heap.size, 2, none⟩) (Nat.le_refl _) (.int .i64 ((fieldv z 3 : Nat) : Int))).setCell (p := ⟨w.heap.size, 3, none⟩) (Nat.le_refl _) (.int .i64 ((fieldv z 4 : Nat) : Int))).setCell (p := ⟨w.heap.size, 4, none⟩) (Nat.le_refl _) (.int .i64 ((fieldv z 5 : Nat) : Int))).setCell (p := ⟨w.heap.size, 5, none⟩) (Nat.le_refl _) (.int .i64 ((fieldv z 6 : Nat) : Int))).setCell (p := ⟨w.heap.size, 6, none⟩) (Nat.le_refl _) (.int .i64 ((fieldv z 7 : Nat) : Int))).setCell (p := ⟨w.heap.size, 7, none⟩) (Nat.le_refl _) (.int .i64 ((fieldv z 8 : Nat) : Int))).setCell (p := ⟨w.heap.size, 8, none⟩) (Nat.le_refl _) (.int .i64 ((fieldv z 9 : Nat) : Int))).drew HLO.out (by simp; omega)
          · exact ((((((((((hFW.out).setCell (p := ⟨w.heap.size, 0, none⟩) (Nat.le_refl _) (.int .i64 ((fieldv z 1 : Nat) : Int))).setCell (p := ⟨w.heap.size, 1, none⟩) (Nat.le_refl _) (.int .i64 ((fieldv z 2 : Nat) : Int))).setCell (p := ⟨w.heap.size, 2, none⟩) (Nat.le_refl _) (.int .i64 ((fieldv z 3 : Nat) : Int))).setCell (p := ⟨w.heap.size, 3, none⟩) (Nat.le_refl _) (.int .i64 ((fieldv z 4 : Nat) : Int))).setCell (p := ⟨w.heap.size, 4, none⟩) (Nat.le_refl _) (.int .i64 ((fieldv z 5 : Nat) : Int))).setCell (p := ⟨w.heap.size, 5, none⟩) (Nat.le_refl _) (.int .i64 ((fieldv z 6 : Nat) : Int))).setCell (p := ⟨w.heap.size, 6, none⟩) (Nat.le_refl _) (.int .i64 ((fieldv z 7 : Nat) : Int))).setCell (p := ⟨w.heap.size, 7, none⟩) (Nat.le_refl _) (.int .i64 ((fieldv z 8 : Nat) : Int))).setCell (p := ⟨w.heap.size, 8, none⟩) (Nat.le_refl _) (.int .i64 ((fieldv z 9 : Nat) : Int))).drew
        · have hp : pErr n z = 9 := by unfold pErr; rw [if_neg (by omega), if_neg (by omega), if_neg (fun h => h9 h.2)]
          obtain ⟨F, hF⟩ : ∃ F, F = fieldv z 9 := ⟨_, rfl⟩
          rw [← hF] at y9 h9
          have h91 : ((F : Int) == (n : Int)) = false := by simp; omega
          have h92 : ((F : Int) != (n : Int)) = true := by simp; omega
          have HP9 := Lib.hid hp
          clear hp h5 hF
          go_wp2
          exact bodyPost_ret (v := .tuple #[.agg (hdr (fun _ => 0)), .slice none 0 0, .int .i64 9]) (by simp [results, Try.results60, go_sem, hdr, o0, o1, o2, o3, o4, o5, o6, o7, o8]) rfl (RParseEnd.bad ⟨rfl, hFW.out⟩ HP9.out (by decide))
      · have hp : pErr n z = 9 := by unfold pErr; rw [if_neg (by omega), if_neg (by omega), if_neg (fun h => h5 h.1)]
        obtain ⟨F, hF⟩ : ∃ F, F = fieldv z 0 := ⟨_, rfl⟩
        rw [← hF] at y0 h5
        have h91 : ((F : Int) == 5) = false := by simp; omega
        have h92 : ((F : Int) != 5) = true := by simp; omega
        have HP9 := Lib.hid hp
        clear hp hF
        go_wp2
        exact bodyPost_ret (v := .tuple #[.agg (hdr (fun _ => 0)), .slice none 0 0, .int .i64 9]) (by simp [results, Try.results60, go_sem, hdr, o0, o1, o2, o3, o4, o5, o6, o7, o8]) rfl (RParseEnd.bad ⟨rfl, hFW.out⟩ HP9.out (by decide))
theorem rparse_any (A : Option Addr) (n c : Nat) (z : Nat → Int) (hnc : n ≤ c) (hz : ∀ j, j < n → 0 ≤ z j ∧ z j < 256) (w : World) (hr : Row w w.heap.size A n (fun j => .int .u8 (z j))) :
    Calls Try.prog 60 #[.slice A n c] w (RParseEnd n z w) := by
  by_cases h20 : n < 20
  · exact (rparse_short A n c h20 w).mono fun _ _ h => RParseEnd.bad h (by unfold pErr; rw [if_pos h20]) (by decide)
  by_cases h9 : 9000 < n
  · exact (rparse_long A n c h9 w).mono fun _ _ h => RParseEnd.bad h (by unfold pErr; rw [if_neg h20, if_pos h9]) (by decide)
  exact rparse_mid A n c z (by omega) (by omega) hnc hz w hr
end Go.Proofs.Ytofaghpflmeblaa
namespace Go.Proofs.Ytofaghpflmeblaa
open Go.RowKit

theorem anyWrong_of (h : Nat → Int) (hw : ∀ k, k < 10 → 0 ≤ hval h k ∧ hval h k < 2 ^ pwd k) : anyWrong h = false := by
  have hf : firstWrong h 0 10 = -1 := firstWrong_none _ 10 0 fun j _ hj => by
    obtain ⟨h0, h1⟩ := hw j (by omega)
    obtain ⟨x, hx⟩ : ∃ x : Nat, hval h j = (x : Int) := ⟨(hval h j).toNat, by omega⟩
    rw [hx]
    refine wrongB_nat _ _ ?_
    have h2 : (((2 ^ pwd j : Nat)) : Int) = 2 ^ pwd j := by simp
    omega
  unfold anyWrong
  rw [hf]; decide
theorem validB_wrong (h : Nat → Int) (hv : validB h = true) : anyWrong h = false := by
  unfold validB at hv
  simp at hv
  exact hv.1.1
theorem anyWrong_len (h : Nat → Int) (a b : Int) (hv : anyWrong (withLen h a) = false) (h0 : 0 ≤ b) (h1 : b < 65536) : anyWrong (withLen h b) = false := by
  refine anyWrong_of _ fun k hk => ?_
  have := anyWrong_false _ hv k hk
  by_cases h9 : k = 9
  · subst h9
    exact ⟨h0, h1⟩
  · have e : hval (withLen h b) k = hval (withLen h a) k := by
      unfold hval withLen
      split
      · rfl
      · rw [if_neg (by omega), if_neg (by omega)]
    rw [e]; exact this
theorem validB_len (h : Nat → Int) (a b : Int) (hv : anyWrong (withLen h a) = false) (h0 : 20 ≤ b) (h1 : b ≤ 9000) : validB (withLen h b) = true := by
  have := anyWrong_len h a b hv (by omega) (by omega)
  unfold validB
  rw [this]
  show (!false && decide (20 ≤ b) && decide (b ≤ 9000)) = true
  simp; omega
theorem validB_long (h : Nat → Int) (b : Int) (h1 : 9000 < b) : validB (withLen h b) = false := by
  unfold validB
  show (_ && decide (b ≤ 9000)) = false
  simp; omega
theorem withLen_twice (h : Nat → Int) (a b : Int) : withLen (withLen h a) b = withLen h b := by
  funext k; unfold withLen; split <;> rfl
/-- a built packet is accepted -/
theorem pErr_pkt (h z : Nat → Int) (n : Nat) (hn : 20 ≤ n) (hm : n ≤ 9000) (hw : anyWrong (withLen h n) = false) : pErr n (pktAt (withLen h n) z) = 0 := by
  have f0 := field_back (withLen h n) z hw 0 (by decide)
  have f9 := field_back (withLen h n) z hw 9 (by decide)
  have e0 : hval (withLen h n) 0 = 5 := rfl
  have e9 : hval (withLen h n) 9 = n := rfl
  unfold pErr
  rw [if_neg (by omega), if_neg (by omega), if_pos ⟨by omega, by omega⟩]
theorem pHdr_pkt (h z : Nat → Int) (n : Nat) (hn : 20 ≤ n) (hm : n ≤ 9000) (hw : anyWrong (withLen h n) = false) : hdr (pHdr n (pktAt (withLen h n) z)) = hdr (withLen h n) :=
  (pHdr_good _ _ (pErr_pkt h z n hn hm hw)).trans (gpart_hdr _ _ hw)
theorem own_below {w w' : World} {base e n : Nat} {v : Value} {xs : List Value} (h : w.ownsRow base e 1 v n xs) (hb : Below w.heap.size w w') : w'.ownsRow base e 1 v n xs :=
  h.kept (grownBy_of hb) (by
    rcases v.ownBlock with _ | k
    · exact .inl rfl
    · exact .inr (by simp))
theorem own_alloc {w : World} {base e n : Nat} {v : Value} {xs : List Value} (h : w.ownsRow base e 1 v n xs) (o : Obj) : (w.alloc o).ownsRow base e 1 v n xs := h.alloc o
theorem made_zero (W : World) (n : Nat) : Row (W.alloc (.cells (madeCells #[.int .u8 0] n) 5)) (W.alloc (.cells (madeCells #[.int .u8 0] n) 5)).heap.size (some ⟨W.heap.size, 0, none⟩) n (fun _ => .int .u8 0) :=
  rowIs_row (World.rowIs_made W (.int .u8 0) n 5) (by simp) (fun _ _ => rfl)

theorem bb_good (h : Nat → Int) (hw : anyWrong (withLen h 20) = false) (W : World) (N : Nat) (hr : Row W W.heap.size (some ⟨N, 0, none⟩) 8980 (fun _ => .int .u8 0)) :
    Calls Try.prog 79 #[.agg #[.int .i64 (h 0), .int .i64 (h 1), .int .i64 (h 2), .int .i64 (h 3), .int .i64 (h 4), .int .i64 (h 5), .int .i64 (h 6), .int .i64 (h 7), .int .i64 20], .slice (some ⟨N, 0, none⟩) 8980 8980] W fun e w' =>
      ∃ A c, e = .returned (.tuple #[.slice A 9000 c, .int .i64 0]) ∧ 9000 ≤ c ∧ w'.ownsRow W.heap.size 5 1 (.slice A 9000 c) 9000 ((List.range 9000).map (fun j => .int .u8 (pktAt (withLen h 9000) (fun _ => 0) j))) ∧ Below W.heap.size W w' := by
  have hv : validB (withLen (withLen h 20) (20 + (8980 : Nat))) = true := by
    rw [withLen_twice]; exact validB_len h 20 9000 hw (by decide) (by decide)
  refine (build_good (withLen h 20) (some ⟨N, 0, none⟩) 8980 8980 (fun _ => 0) (by decide) hv _ hr).mono ?_
  rintro e w' ⟨A, c, rfl, hc, ho, hb⟩
  rw [withLen_twice] at ho
  exact ⟨A, c, rfl, hc, ho, hb⟩
theorem bb_bad (h : Nat → Int) (W : World) (N : Nat) :
    Calls Try.prog 79 #[.agg #[.int .i64 (h 0), .int .i64 (h 1), .int .i64 (h 2), .int .i64 (h 3), .int .i64 (h 4), .int .i64 (h 5), .int .i64 (h 6), .int .i64 (h 7), .int .i64 20], .slice (some ⟨N, 0, none⟩) 8981 8981] W fun e w' =>
      e = .returned (.tuple #[.slice none 0 0, .int .i64 2]) ∧ Below W.heap.size W w' :=
  build_bad (withLen h 20) (some ⟨N, 0, none⟩) 8981 8981 (by decide) (by rw [withLen_twice]; exact validB_long h _ (by decide)) W
theorem bp_good (h : Nat → Int) (hw : anyWrong (withLen h 20) = false) (W : World) (A : Option Addr) (c : Nat) (hc : 9000 ≤ c) (hr : Row W W.heap.size A 9000 (fun j => .int .u8 (pktAt (withLen h 9000) (fun _ => 0) j))) :
    Calls Try.prog 42 #[.slice A 9000 c] W fun e w' =>
      ∃ P c2, e = .returned (.tuple #[.agg #[.int .i64 (h 0), .int .i64 (h 1), .int .i64 (h 2), .int .i64 (h 3), .int .i64 (h 4), .int .i64 (h 5), .int .i64 (h 6), .int .i64 (h 7), .int .i64 9000], .slice P 8980 c2, .int .i64 0]) ∧ Below W.heap.size W w' := by
  have hw9 : anyWrong (withLen h (9000 : Nat)) = false := anyWrong_len h 20 9000 hw (by decide) (by decide)
  have hb : ∀ j, j < 9000 → 0 ≤ pktAt (withLen h 9000) (fun _ => 0) j ∧ pktAt (withLen h 9000) (fun _ => 0) j < 256 := fun j hj =>
    pkt_byte (withLen h 9000) (fun _ => 0) 8980 (fun _ _ => ⟨by decide, by decide⟩) j (by omega)
  refine (parse_any A 9000 c _ hc hb W hr).mono ?_
  rintro e w' ⟨P, c2, rfl, _, _, hb2⟩
  have e0 := pErr_pkt h (fun _ => 0) 9000 (by decide) (by decide) hw9
  have e1 : pLen 9000 (pktAt (withLen h (9000 : Nat)) (fun _ => 0)) = 8980 := if_pos e0
  have e2 := pHdr_pkt h (fun _ => 0) 9000 (by decide) (by decide) hw9
  refine ⟨P, c2, ?_, hb2⟩
  change Ending.returned (.tuple #[.agg (hdr (pHdr 9000 (pktAt (withLen h (9000 : Nat)) (fun _ => 0)))), .slice P (pLen 9000 (pktAt (withLen h (9000 : Nat)) (fun _ => 0))) c2, .int .i64 (pErr 9000 (pktAt (withLen h (9000 : Nat)) (fun _ => 0)))]) = _
  rw [e0, e1, e2]
  rfl

end Go.Proofs.Ytofaghpflmeblaa
namespace Go.Proofs.Ytofaghpflmeblaa
open Go.RowKit

theorem pay_form {w : World} {base L c : Nat} {P : Option Addr} {f : Nat → Value} (h : w.ownsRow base 5 1 (.slice P L c) L ((List.range L).map f)) (hb : base ≤ w.heap.size) :
    ∃ g, (0 < L → P = some ⟨g, 0, none⟩ ∧ g < w.heap.size) ∧ base ≤ g ∧ (∀ j, j < L → w.cell? ⟨g, j, none⟩ = some (f j)) ∧ ∀ j, j < L → w.frozen? ⟨g, j, none⟩ = false := by
  rcases Nat.eq_zero_or_pos L with h0 | h0
  · subst h0
    exact ⟨w.heap.size, fun h => absurd h (by omega), hb, fun j hj => absurd hj (by omega), fun j hj => absurd hj (by omega)⟩
  · obtain ⟨g, cap, hv, h1, h2⟩ := own_form h h0
    cases hv
    exact ⟨g, fun _ => ⟨rfl, h2⟩, h1, fun j hj => by rw [h.cellAt j (by omega)]; simp [hj], fun j _ => h.frozenAt j⟩
theorem frozen_new (w : World) (o : Obj) {p : Addr} (h : p.block < w.heap.size) : (w.alloc o).frozen? p = w.frozen? p :=
  ((Below.refl w.heap.size w).alloc (Nat.le_refl _) o).frozen h
theorem grown_keep {w w' : World} {B g n : Nat} {A : Option Addr} {v : Nat → Value} (h : Row w B A n v) (hg : w.grownBy w' (some g)) (hB : B ≤ g) (hB2 : B ≤ w.heap.size) : Row w' B A n v :=
  h.keep fun p hp => World.cell?_of_block (hg.block p.block (by omega) (fun e => by cases e; omega))

end Go.Proofs.Ytofaghpflmeblaa
namespace Go.Proofs.Ytofaghpflmeblaa
open Go.RowKit

theorem getv_congr (z y : Nat → Int) (p : Nat) : ∀ w, (∀ i, i < w → z ((p + i) / 8) = y ((p + i) / 8)) → getv z p w = getv y p w
  | 0, _ => rfl
  | w + 1, h => by
    unfold getv
    rw [getv_congr z y p w (fun i hi => h i (by omega))]
    unfold HM.hb
    rw [h w (by omega)]
theorem fieldv_congr (z y : Nat → Int) (k : Nat) (h : ∀ i, i < pwd k → z ((offs k + i) / 8) = y ((offs k + i) / 8)) : fieldv z k = fieldv y k := by
  unfold fieldv
  rw [Nat.zero_add, so_offs]
  exact getv_congr z y _ _ h
theorem fieldv_head (z y : Nat → Int) (k : Nat) (hk : k < 10) (h : ∀ j, j < 20 → z j = y j) : fieldv z k = fieldv y k :=
  fieldv_congr z y k fun i hi => h _ (by have := place_lt k i hk hi; omega)
theorem fieldv_last (z y : Nat → Int) (h : ∀ j, 0 < j → j < 20 → z j = y j) : fieldv z 9 = fieldv y 9 :=
  fieldv_congr z y 9 fun i hi => by
    have h9 : offs 9 = 144 := by decide
    have hw : pwd 9 = 16 := rfl
    exact h _ (by omega) (by omega)
theorem fieldv_zero (z : Nat → Int) (x : Nat) (hx : z 0 = (x : Int)) (h256 : x < 256) : fieldv z 0 = x / 16 := by
  have hb : ∀ i, i < 4 → HM.hb z (0 + i) = vbit (x / 16) 4 i := by
    intro i hi
    unfold HM.hb vbit
    have hi4 : i = 0 ∨ i = 1 ∨ i = 2 ∨ i = 3 := by omega
    rcases hi4 with rfl | rfl | rfl | rfl <;> simp [hx] <;> congr 1 <;> omega
  have := getv_bits z 0 4 (x / 16) (by omega) hb 4 (Nat.le_refl _)
  show getv z 0 4 = _
  rw [this]; simp

theorem pErr_ext (h z y : Nat → Int) (m : Nat) (hn : 20 ≤ m) (hm : m < 9000) (hw : anyWrong (withLen h m) = false) (hy : ∀ j, j < m → y j = pktAt (withLen h m) z j) : pErr (m + 1) y = 9 := by
  have e := fieldv_head y (pktAt (withLen h m) z) 9 (by decide) (fun j hj => hy j (by omega))
  have f9 := field_back (withLen h m) z hw 9 (by decide)
  have e9 : hval (withLen h m) 9 = m := rfl
  unfold pErr
  rw [if_neg (by omega), if_neg (by omega), if_neg (fun hc => by have := hc.2; omega)]
theorem pErr_cut (h z : Nat → Int) (m q : Nat) (hq : q < m) (hm : m < 9000) (hw : anyWrong (withLen h m) = false) : pErr q (pktAt (withLen h m) z) ≠ 0 := by
  have f9 := field_back (withLen h m) z hw 9 (by decide)
  have e9 : hval (withLen h m) 9 = m := rfl
  unfold pErr
  by_cases h20 : q < 20
  · rw [if_pos h20]; decide
  · rw [if_neg h20, if_neg (by omega), if_neg (fun hc => by have := hc.2; omega)]; decide
theorem pErr_ver (h z y : Nat → Int) (m x : Nat) (hn : 20 ≤ m) (hm : m < 9000) (hw : anyWrong (withLen h m) = false) (hy : ∀ j, 0 < j → j < m → y j = pktAt (withLen h m) z j) (hx : y 0 = (x : Int)) (h256 : x < 256) : pErr m y = if x / 16 = 5 then 0 else 9 := by
  have e := fieldv_last y (pktAt (withLen h m) z) (fun j h0 hj => hy j h0 (by omega))
  have f9 := field_back (withLen h m) z hw 9 (by decide)
  have e9 : hval (withLen h m) 9 = m := rfl
  have e0 := fieldv_zero y x hx h256
  unfold pErr
  rw [if_neg (by omega), if_neg (by omega), e0]
  by_cases h5 : x / 16 = 5
  · rw [if_pos ⟨h5, by omega⟩, if_pos h5]
  · rw [if_neg (fun hc => h5 hc.1), if_neg h5]

/-- what Parse accepted is built again -/
theorem back_build (n : Nat) (z : Nat → Int) (hz : ∀ j, j < n → 0 ≤ z j ∧ z j < 256) (h0 : pErr n z = 0) (P : Option Addr) (c : Nat) (W : World) (hr : Row W W.heap.size P (pLen n z) (fun j => .int .u8 (z (20 + j)))) :
    Calls Try.prog 79 #[.agg (hdr (pHdr n z)), .slice P (pLen n z : Nat) c] W fun e w' => ∃ A c2, e = .returned (.tuple #[.slice A n c2, .int .i64 0]) ∧ Row w' w'.heap.size A n (fun j => .int .u8 (z j)) ∧ Below W.heap.size W w' := by
  obtain ⟨h20, h9, h5, hl⟩ : 20 ≤ n ∧ n ≤ 9000 ∧ fieldv z 0 = 5 ∧ fieldv z 9 = n := by
    unfold pErr at h0
    by_cases a : n < 20
    · rw [if_pos a] at h0; cases h0
    · rw [if_neg a] at h0
      by_cases b : 9000 < n
      · rw [if_pos b] at h0; cases h0
      · rw [if_neg b] at h0
        by_cases c : fieldv z 0 = 5 ∧ fieldv z 9 = n
        · exact ⟨by omega, by omega, c.1, c.2⟩
        · rw [if_neg c] at h0; cases h0
  have hp : pLen n z = n - 20 := if_pos h0
  have e : withLen (gpart z 10) (20 + ((n - 20 : Nat) : Int)) = gpart z 10 := by
    rw [show (20 : Int) + ((n - 20 : Nat) : Int) = (n : Int) by omega]; exact withLen_parsed z n hl
  rw [pHdr_good n z h0, hp]
  rw [hp] at hr
  refine (build_good (gpart z 10) P (n - 20) c (fun j => z (20 + j)) (by omega) (by rw [e]; exact valid_parsed z n h20 h9 h5 hl) W hr).mono ?_
  rintro en w' ⟨A, c2, rfl, hc, ho, hb⟩
  rw [e] at ho
  have hr2 := (own_map_row ho).2
  rw [show 20 + (n - 20) = n by omega] at hr2 ⊢
  exact ⟨A, c2, rfl, hr2.congr (fun j hj => by rw [pkt_parsed z n h20 hz h5 j hj]), hb⟩
theorem back_valid (n : Nat) (z : Nat → Int) (h0 : pErr n z = 0) (W : World) :
    Calls Try.prog 99 #[.agg (hdr (pHdr n z))] W fun e w' => e = .returned (.bool true) ∧ Below W.heap.size W w' := by
  obtain ⟨h20, h9, h5, hl⟩ : 20 ≤ n ∧ n ≤ 9000 ∧ fieldv z 0 = 5 ∧ fieldv z 9 = n := by
    unfold pErr at h0
    by_cases a : n < 20
    · rw [if_pos a] at h0; cases h0
    · rw [if_neg a] at h0
      by_cases b : 9000 < n
      · rw [if_pos b] at h0; cases h0
      · rw [if_neg b] at h0
        by_cases c : fieldv z 0 = 5 ∧ fieldv z 9 = n
        · exact ⟨by omega, by omega, c.1, c.2⟩
        · rw [if_neg c] at h0; cases h0
  rw [pHdr_good n z h0]
  have := valid_ok (gpart z 10) W
  rwa [valid_parsed z n h20 h9 h5 hl] at this

theorem Row.put0 {w : World} {B n g o : Nat} {v : Nat → Value} (h : Row w B (some ⟨g, o, none⟩) n v) (u : Value) : Row (w.setCell ⟨g, o, none⟩ u) B (some ⟨g, o, none⟩) n (fun j => if j = 0 then u else v j) := fun hn => by
  obtain ⟨b, off, e, hb, hc⟩ := h hn
  cases e
  refine ⟨g, o, rfl, hb, fun j hj => ?_⟩
  by_cases hj0 : j = 0
  · subst hj0
    show _ = some u
    exact World.cell?_setCell_same _ _ _ (hc 0 hn)
  · show _ = some (if j = 0 then u else v j)
    rw [if_neg hj0]
    exact (World.cell?_setCell_other _ _ _ _ (by simp)).trans (hc j hj)

def ParseSome (N : Nat) (y : Nat → Int) (W : World) (e : Ending) (w' : World) : Prop :=
  ∃ (X : Nat → Int) (P : Option Addr) (L c : Nat), e = .returned (.tuple #[.agg #[.int .i64 (X 0), .int .i64 (X 1), .int .i64 (X 2), .int .i64 (X 3), .int .i64 (X 4), .int .i64 (X 5), .int .i64 (X 6), .int .i64 (X 7), .int .i64 (X 8)], .slice P L c, .int .i64 (pErr N y)]) ∧ Below W.heap.size W w'
theorem parse_some (A : Option Addr) (N c : Nat) (y : Nat → Int) (hc : N ≤ c) (hy : ∀ j, j < N → 0 ≤ y j ∧ y j < 256) (W : World) (hr : Row W W.heap.size A N (fun j => .int .u8 (y j))) :
    Calls Try.prog 42 #[.slice A N c] W (ParseSome N y W) := by
  refine (parse_any A N c y hc hy W hr).mono ?_
  rintro e w' ⟨P, c2, rfl, _, _, hb⟩
  exact ⟨pHdr N y, P, pLen N y, c2, rfl, hb⟩
theorem hb_good (h : Nat → Int) (n N : Nat) (hN : N = 20 + n) (hle : n ≤ 300) (hv : validB (withLen h (20 + n)) = true) (A : Option Addr) (c : Nat) (z : Nat → Int) (W : World) (hr : Row W W.heap.size A n (fun j => .int .u8 (z j))) :
    Calls Try.prog 79 #[.agg #[.int .i64 (h 0), .int .i64 (h 1), .int .i64 (h 2), .int .i64 (h 3), .int .i64 (h 4), .int .i64 (h 5), .int .i64 (h 6), .int .i64 (h 7), .int .i64 (h 8)], .slice A n c] W fun e w' =>
      ∃ A1 c1, e = .returned (.tuple #[.slice A1 N c1, .int .i64 0]) ∧ N ≤ c1 ∧ w'.ownsRow W.heap.size 5 1 (.slice A1 N c1) N ((List.range N).map (fun j => .int .u8 (pktAt (withLen h (20 + n)) z j))) ∧ Below W.heap.size W w' := by
  subst hN
  exact build_good h A n c z (by omega) hv W hr
theorem hp_good (h : Nat → Int) (n N : Nat) (hN : N = 20 + n) (hle : n ≤ 300) (hv : validB (withLen h (20 + n)) = true) (z : Nat → Int) (hz : ∀ j, j < n → 0 ≤ z j ∧ z j < 256) (A : Option Addr) (c : Nat) (hc : N ≤ c) (W : World) (hr : Row W W.heap.size A N (fun j => .int .u8 (pktAt (withLen h (20 + n)) z j))) :
    Calls Try.prog 42 #[.slice A N c] W fun e w' =>
      ∃ P c2, e = .returned (.tuple #[.agg #[.int .i64 (h 0), .int .i64 (h 1), .int .i64 (h 2), .int .i64 (h 3), .int .i64 (h 4), .int .i64 (h 5), .int .i64 (h 6), .int .i64 (h 7), .int .i64 (20 + (n : Int))], .slice P n c2, .int .i64 0]) ∧ Row w' w'.heap.size P n (fun j => .int .u8 (z j)) ∧ Below W.heap.size W w' := by
  subst hN
  have hcast : (20 : Int) + (n : Int) = ((20 + n : Nat) : Int) := by omega
  have hw : anyWrong (withLen h ((20 + n : Nat) : Int)) = false := by rw [← hcast]; exact validB_wrong _ hv
  refine (parse_any A (20 + n) c _ hc (pkt_byte _ z n hz) W hr).mono ?_
  rintro e w' ⟨P, c2, rfl, _, ho, hb⟩
  rw [hcast] at ho ⊢
  have e0 := pErr_pkt h z (20 + n) (by omega) (by omega) hw
  have e1 : pLen (20 + n) (pktAt (withLen h ((20 + n : Nat) : Int)) z) = n := (if_pos e0).trans (by omega)
  have e2 := pHdr_pkt h z (20 + n) (by omega) (by omega) hw
  rw [e1] at ho
  refine ⟨P, c2, ?_, (own_map_row ho).2.congr fun j _ => ?_, hb⟩
  · rw [e0, e1, e2]; rfl
  · show Value.int .u8 (pktAt _ z (20 + j)) = _
    unfold pktAt
    rw [if_neg (by omega), Nat.add_sub_cancel_left]

/-- what the rest of the law reads -/
structure HC (h : Nat → Int) (w : World) (n N : Nat) (z Y : Nat → Int) (A4 P5 : Option Addr) (g5 B : Nat) (W : World) : Prop where
  hs : w.heap.size < B
  gs : g5 < B
  bs : B ≤ W.heap.size
  k : Blk W w.heap.size 36 #[.int .i64 (h 0), .int .i64 (h 1), .int .i64 (h 2), .int .i64 (h 3), .int .i64 (h 4), .int .i64 (h 5), .int .i64 (h 6), .int .i64 (h 7), .int .i64 (20 + (n : Int))]
  g : Blk W g5 36 #[.int .i64 (h 0), .int .i64 (h 1), .int .i64 (h 2), .int .i64 (h 3), .int .i64 (h 4), .int .i64 (h 5), .int .i64 (h 6), .int .i64 (h 7), .int .i64 (20 + (n : Int))]
  rp : Row W B P5 n (fun j => .int .u8 (z j))
  rb : Row W B A4 N (fun j => .int .u8 (Y j))
  bb : Below w.heap.size w W
section
variable {h : Nat → Int} {w : World} {n N : Nat} {z Y : Nat → Int} {A4 P5 : Option Addr} {g5 B : Nat} {W W' : World}
theorem HC.next (c : HC h w n N z Y A4 P5 g5 B W) (hb : Below B W W') : HC h w n N z Y A4 P5 g5 B W' :=
  ⟨c.hs, c.gs, Nat.le_trans c.bs hb.size, c.k.below hb c.hs, c.g.below hb c.gs, c.rp.below hb, c.rb.below hb, c.bb.trans (hb.mono (Nat.le_of_lt c.hs))⟩
theorem HC.up (c : HC h w n N z Y A4 P5 g5 B W) : HC h w n N z Y A4 P5 g5 W.heap.size W :=
  ⟨Nat.lt_of_lt_of_le c.hs c.bs, Nat.lt_of_lt_of_le c.gs c.bs, Nat.le_refl _, c.k, c.g, c.rp.more c.bs, c.rb.more c.bs, c.bb⟩
theorem HC.alloc (c : HC h w n N z Y A4 P5 g5 B W) (o : Obj) : HC h w n N z Y A4 P5 g5 B (W.alloc o) := c.next ((Below.refl B W).alloc c.bs o)
theorem HC.set (c : HC h w n N z Y A4 P5 g5 B W) (p : Addr) (hp : B ≤ p.block) (u : Value) : HC h w n N z Y A4 P5 g5 B (W.setCell p u) := c.next ((Below.refl B W).setCell hp u)
theorem HC.over (c : HC h w n N z Y A4 P5 g5 B W) (hb : Below W.heap.size W W') : HC h w n N z Y A4 P5 g5 W'.heap.size W' := (c.up.next hb).up
end
theorem owns_empty_at (W : World) (e : TypeId) (N : Nat) (hN : W.heap.size = N) : (W.alloc (.cells #[] e)).ownsRow W.heap.size e 1 (.slice (some ⟨N, 0, none⟩) 0 0) 0 [] := by
  subst hN; exact owns_empty W e
theorem copy_below_at {W W1 : World} {e : TypeId} {N : Nat} (hN : W.heap.size = N) (h : (W.alloc (.cells #[] e)).grownBy W1 (Value.slice (some ⟨N, 0, none⟩) 0 0).ownBlock) : Below W.heap.size W W1 := by
  subst hN; exact copy_below h
theorem ext_at (Y : Nat → Int) (N : Nat) : ∀ j, j < N + 1 → ((List.range N).map (fun j => Value.int .u8 (Y j)) ++ [.int .u8 0])[j]? = some (.int .u8 (if j < N then Y j else 0)) := by
  intro j hj
  by_cases h : j < N
  · rw [if_pos h, List.getElem?_append_left (by simpa using h)]; simp [h]
  · rw [if_neg h, List.getElem?_append_right (by simp; omega)]
    obtain rfl : j = N := by omega
    simp
theorem parse_ext (h : Nat → Int) (n N : Nat) (hN : N = 20 + n) (hle : n ≤ 300) (hw : anyWrong (withLen h (20 + n)) = false) (z : Nat → Int) (hz : ∀ j, j < n → 0 ≤ z j ∧ z j < 256) (A : Option Addr) (c : Nat) (hc : N + 1 ≤ c) (W : World) (hr : Row W W.heap.size A (N + 1) (fun j => .int .u8 (if j < N then pktAt (withLen h (20 + n)) z j else 0))) :
    Calls Try.prog 42 #[.slice A (N + 1) c] W fun e w' => ∃ (X : Nat → Int) (P : Option Addr) (L c : Nat), e = .returned (.tuple #[.agg #[.int .i64 (X 0), .int .i64 (X 1), .int .i64 (X 2), .int .i64 (X 3), .int .i64 (X 4), .int .i64 (X 5), .int .i64 (X 6), .int .i64 (X 7), .int .i64 (X 8)], .slice P L c, .int .i64 9]) ∧ Below W.heap.size W w' := by
  subst hN
  have hcast : (20 : Int) + (n : Int) = ((20 + n : Nat) : Int) := by omega
  rw [hcast] at hw hr
  have hb := pkt_byte (withLen h ((20 + n : Nat) : Int)) z n hz
  refine (parse_some A (20 + n + 1) c (fun j => if j < 20 + n then pktAt (withLen h ((20 + n : Nat) : Int)) z j else 0) hc (fun j hj => ?_) W hr).mono ?_
  · show 0 ≤ (if j < 20 + n then _ else _) ∧ (if j < 20 + n then _ else _) < _
    by_cases hj2 : j < 20 + n
    · rw [if_pos hj2]; exact hb j hj2
    · rw [if_neg hj2]; decide
  · rintro e w' ⟨X, P, L, c2, rfl, hb2⟩
    rw [pErr_ext h z _ (20 + n) (by omega) (by omega) hw (fun j hj => if_pos hj)]
    exact ⟨X, P, L, c2, rfl, hb2⟩
theorem parse_cut (h : Nat → Int) (n N : Nat) (hN : N = 20 + n) (hle : n ≤ 300) (hw : anyWrong (withLen h (20 + n)) = false) (z : Nat → Int) (hz : ∀ j, j < n → 0 ≤ z j ∧ z j < 256) (q : Nat) (hq : q < N) (A : Option Addr) (c : Nat) (hc : N ≤ c) (W : World) (hr : Row W W.heap.size A N (fun j => .int .u8 (pktAt (withLen h (20 + n)) z j))) :
    Calls Try.prog 42 #[.slice A q c] W fun e w' => ∃ (X : Nat → Int) (P : Option Addr) (L c : Nat) (E : Int), e = .returned (.tuple #[.agg #[.int .i64 (X 0), .int .i64 (X 1), .int .i64 (X 2), .int .i64 (X 3), .int .i64 (X 4), .int .i64 (X 5), .int .i64 (X 6), .int .i64 (X 7), .int .i64 (X 8)], .slice P L c, .int .i64 E]) ∧ E ≠ 0 ∧ Below W.heap.size W w' := by
  subst hN
  have hcast : (20 : Int) + (n : Int) = ((20 + n : Nat) : Int) := by omega
  rw [hcast] at hw hr
  have hb := pkt_byte (withLen h ((20 + n : Nat) : Int)) z n hz
  refine (parse_some A q c _ (by omega) (fun j hj => hb j (by omega)) W (hr.take (by omega))).mono ?_
  rintro e w' ⟨X, P, L, c2, rfl, hb2⟩
  exact ⟨X, P, L, c2, _, rfl, pErr_cut h z (20 + n) q hq (by omega) hw, hb2⟩
theorem parse_ver (h : Nat → Int) (n N : Nat) (hN : N = 20 + n) (hle : n ≤ 300) (hw : anyWrong (withLen h (20 + n)) = false) (z : Nat → Int) (hz : ∀ j, j < n → 0 ≤ z j ∧ z j < 256) (x : Int) (hx0 : 0 ≤ x) (hx1 : x < 256) (A : Option Addr) (c : Nat) (hc : N ≤ c) (W : World) (hr : Row W W.heap.size A N (fun j => if j = 0 then .int .u8 x else .int .u8 (pktAt (withLen h (20 + n)) z j))) :
    Calls Try.prog 42 #[.slice A N c] W fun e w' => ∃ (X : Nat → Int) (P : Option Addr) (L c : Nat), e = .returned (.tuple #[.agg #[.int .i64 (X 0), .int .i64 (X 1), .int .i64 (X 2), .int .i64 (X 3), .int .i64 (X 4), .int .i64 (X 5), .int .i64 (X 6), .int .i64 (X 7), .int .i64 (X 8)], .slice P L c, .int .i64 (if x / 16 = 5 then 0 else 9)]) ∧ Below W.heap.size W w' := by
  subst hN
  have hcast : (20 : Int) + (n : Int) = ((20 + n : Nat) : Int) := by omega
  rw [hcast] at hw hr
  have hb := pkt_byte (withLen h ((20 + n : Nat) : Int)) z n hz
  have hr2 : Row W W.heap.size A (20 + n) (fun j => .int .u8 (if j = 0 then x else pktAt (withLen h ((20 + n : Nat) : Int)) z j)) := hr.congr fun j _ => by
    by_cases hj : j = 0
    · rw [if_pos hj, if_pos hj]
    · rw [if_neg hj, if_neg hj]
  refine (parse_some A (20 + n) c (fun j => if j = 0 then x else pktAt (withLen h ((20 + n : Nat) : Int)) z j) hc (fun j hj => ?_) W hr2).mono ?_
  · show 0 ≤ (if j = 0 then _ else _) ∧ (if j = 0 then _ else _) < _
    by_cases hj2 : j = 0
    · rw [if_pos hj2]; exact ⟨hx0, hx1⟩
    · rw [if_neg hj2]; exact hb j hj
  · rintro e w' ⟨X, P, L, c2, rfl, hb2⟩
    obtain ⟨v, rfl⟩ : ∃ v : Nat, x = (v : Int) := ⟨x.toNat, by omega⟩
    have he := pErr_ver h z (fun j => if j = 0 then (v : Int) else pktAt (withLen h ((20 + n : Nat) : Int)) z j) (20 + n) v (by omega) (by omega) hw (fun j h0 _ => if_neg (by omega)) (if_pos rfl) (by omega)
    rw [he]
    refine ⟨X, P, L, c2, ?_, hb2⟩
    by_cases h5 : v / 16 = 5
    · rw [if_pos h5, if_pos (by omega)]
    · rw [if_neg h5, if_neg (by omega)]

theorem u8_wf {x : Int} (h : (Lit.int .u8 x).wf = true) : 0 ≤ x ∧ x < 256 := by
  have h2 := (by simpa [Lit.wf] using h : IntKind.u8.min ≤ x ∧ x ≤ IntKind.u8.max)
  rw [show IntKind.u8.min = 0 from rfl, show IntKind.u8.max = 255 from rfl] at h2
  omega
end Go.Proofs.Ytofaghpflmeblaa
