/- header.Parse: the walk to the cut behind the fields. -/
import Derived.Test.YtejadoadpgcpjaaES
import Derived.Deep.RegionWith
import Derived.Deep.DeepCutAuto
import Derived.Deep.CutRange
import Derived.Deep.CutBlock
namespace Go.Proofs.Ytejadoadpgcpjaa
open Go.RowKit Go.Shelf

attribute [local go_sem] Oper.semAt_some

private theorem three_new (w : World) : ∀ W, W = ((w.alloc (.cells #[.int .i64 0, .int .i64 0, .int .i64 0, .int .i64 0, .int .i64 0, .int .i64 0, .int .i64 0, .int .i64 0, .int .i64 0] 25)).alloc (.cells #[.slice none 0 0] 22)).alloc (.cells #[.int .i64 0] 26) →
    Blk W w.heap.size 25 (hdr (fun _ => 0)) ∧ Blk W (w.heap.size + 1) 22 #[.slice none 0 0] ∧ Blk W (w.heap.size + 1 + 1) 26 #[.int .i64 0] ∧ Below w.heap.size w W ∧ W.heap.size = w.heap.size + 1 + 1 + 1 := by
  rintro W rfl
  refine ⟨((Blk.new w 25 (hdr (fun _ => 0))).alloc _).alloc _, ?_, ?_, (((Below.refl _ w).alloc (Nat.le_refl _) _).alloc (by simp) _).alloc (by simp; omega) _, by simp⟩
  · have := (Blk.new (w.alloc (.cells (hdr (fun _ => 0)) 25)) 22 #[.slice none 0 0])
    rw [World.size_alloc] at this
    exact this.alloc _
  · have := (Blk.new ((w.alloc (.cells (hdr (fun _ => 0)) 25)).alloc (.cells #[.slice none 0 0] 22)) 26 #[.int .i64 0])
    rw [World.size_alloc, World.size_alloc] at this
    exact this

def Mid (w : World) (A : Option Addr) (n : Nat) (z : Nat → Int) (l : Value) (W : World) : Prop :=
  ∃ B c, l = .slice B 10 c ∧ Row W W.heap.size B 10 (fun j => .int .u64 ((getv z (0 + so pwd j) (pwd j) : Nat) : Int)) ∧ Row W w.heap.size A n (fun j => .int .u8 (z j)) ∧
    Blk W w.heap.size 25 (hdr (fun _ => 0)) ∧ Blk W (w.heap.size + 1) 22 #[.slice none 0 0] ∧ Blk W (w.heap.size + 1 + 1) 26 #[.int .i64 0] ∧ Below w.heap.size w W ∧ w.heap.size + 1 + 1 + 1 ≤ W.heap.size

theorem undrew {w w3 : World} (h : Below w.drew.heap.size w.drew w3) : Below w.heap.size w w3 := ⟨h.os, h.tape, h.output, h.size, h.block⟩
theorem c5_ok {w1 w3 : World} {v : Value} {t : TypeId} (h : Below (w1.alloc (.cells #[v] t)).heap.size (w1.alloc (.cells #[v] t)) w3) : w3.cell? ⟨w1.heap.size, 0, none⟩ = some v :=
  (Blk.below (Blk.new w1 t #[v]) h (by simp)).cell 0
theorem widths_new (w1 : World) (v : Value) (t : TypeId) : Calls Try.prog 52 #[] (w1.alloc (.cells #[v] t)).drew fun e w3 =>
    ∃ L c, e = .returned (.slice L 10 c) ∧ Row w3 w3.heap.size L 10 (fun j => .int .i64 (pwd j : Nat)) ∧ Fresh (w1.heap.size + 1) L ∧ Below (w1.alloc (.cells #[v] t)).heap.size (w1.alloc (.cells #[v] t)) w3 ∧ w3.cell? ⟨w1.heap.size, 0, none⟩ = some v := by
  refine (widths_ok _).mono ?_
  rintro e w3 ⟨L, c, rfl, hL, hf, hb⟩
  exact ⟨L, c, rfl, hL, (by simpa using hf), undrew hb, c5_ok (undrew hb)⟩
@[reducible] def onlyNormal (K : Act → World → Prop) : Exit → Act → World → Prop
  | .normal, a, w => K a w
  | _, _, _ => False
theorem wp_onlyNormal {P : Program} {c : Code} {K : Act → World → Prop} {Q : Exit → Act → World → Prop} {a : Act} {w : World} (h : c.wp P (onlyNormal K) a w) : c.wp P (Exit.then K Q) a w :=
  wp_mono h (by
    intro e a w h
    cases e with
    | normal => exact h
    | _ => exact h.elim)
theorem RS.new {w : World} {g : Nat} {A : Option Addr} {len cap p : Nat} {z : Nat → Int} (h : RS w g A len cap z p) (o : Obj) : RS (w.alloc o) g A len cap z p := ⟨h.1.alloc o, row_new h.2 o⟩
theorem RS.on {w w' : World} {g : Nat} {A : Option Addr} {len cap p : Nat} {z : Nat → Int} (h : RS w g A len cap z p) (hb : Below w.heap.size w w') : RS w' g A len cap z p := ⟨h.1.below hb h.1.lt, h.2.next hb⟩
theorem fresh_ne {base g : Nat} {L : Option Addr} (h : Fresh base L) (hg : g < base) : ∀ a, L = some a → a.block ≠ g := fun a e => by
  have := h a e
  omega
theorem mid_ok {w W w1 w3 w4 : World} {A B : Option Addr} {n cB g : Nat} {z : Nat → Int} {o : Obj} (hW : W = ((w.alloc (.cells #[.int .i64 0, .int .i64 0, .int .i64 0, .int .i64 0, .int .i64 0, .int .i64 0, .int .i64 0, .int .i64 0, .int .i64 0] 25)).alloc (.cells #[.slice none 0 0] 22)).alloc (.cells #[.int .i64 0] 26))
    (hb1 : Below W.heap.size W w1) (hg : W.heap.size ≤ g) (hs1 : w1.heap.size = g + 1) (hb3 : Below (w1.alloc o).heap.size (w1.alloc o) w3) (hR : Row w4 w4.heap.size B 10 (fun j => .int .u64 ((getv z (0 + so pwd j) (pwd j) : Nat) : Int))) (hgr : w3.grownBy w4 (some g)) (hr : Row w w.heap.size A n (fun j => .int .u8 (z j))) : Mid w A n z (.slice B 10 cB) w4 := by
  obtain ⟨t1, t2, t3, t4, t5⟩ := three_new w W hW
  have s3 := hb3.size
  rw [World.size_alloc] at s3
  have Bel : Below W.heap.size W w4 := ((hb1.alloc hb1.size o).trans (hb3.mono (by have := hb1.size; simp; omega))).grown hgr (by omega) (fun k e => by cases e; exact hg)
  have s4 := Bel.size
  exact ⟨B, cB, rfl, hR, hr.below (t4.trans (Bel.mono (by omega))), t1.below Bel (by omega), t2.below Bel (by omega), t3.below Bel (by omega), t4.trans (Bel.mono (by omega)), by omega⟩

set_option maxRecDepth 100000 in
set_option maxHeartbeats 1000000 in
theorem parse_version (A : Option Addr) (n c : Nat) (z : Nat → Int) (hn : 20 ≤ n) (hm : n ≤ 9000) (hz : ∀ j, j < n → 0 ≤ z j ∧ z j < 256) (hv : getv z 0 4 ≠ 5) (w : World) (hr : Row w w.heap.size A n (fun j => .int .u8 (z j))) :
    Calls Try.prog 16 #[.slice A n c] w (BadEnd w 9) := by
  have hmf : ∀ (fn : Fn) (first cap : Array Value) (w : World), (Instr.makeFunc fn first cap).run Try.prog w = .ok (.func fn first cap) w := fun _ _ _ _ => rfl
  have hn20 : (20 ≤ (n : Int)) := by omega
  have hn9 : ((n : Int) ≤ 9000) := by omega
  have HR := Lib.hid hr
  have HZ := Lib.hid hz
  clear hr hz
  go_enter_defers Try.func16, Try.ntmps16
  go_upto_region 5 with (first | (go_at_call 49; refine (must_true _ _).mono ?_; rintro e w1 ⟨rfl, rfl⟩) | (go_at_call 50; refine (newReader_ok A n c z (by omega) _ (by exact row_new (row_new (row_new HR.out _) _) _)).mono ?_; rintro e w1 ⟨g, A2, c2, rfl, hg, hRS, hA2, hb1, hs1⟩; have HRS := Lib.hid hRS; have HA2 := Lib.hid hA2; have HB1 := Lib.hid hb1; have HS1 := Lib.hid hs1; clear hRS hA2 hb1 hs1))
  go_cut [6] from 21 to 23 (fun l wx => Mid w A n z l wx)
  case first =>
    refine wp_onlyNormal ?_
    go_region_with (first | (go_at_call 52; refine (widths_new _ _ _).mono ?_; rintro e w3 ⟨L, lc, rfl, hL, hLf, hb3, c5⟩; have HL := Lib.hid hL; have HLF := Lib.hid hLf; have HB3 := Lib.hid hb3; clear hL hLf hb3) | (go_at_call 51; refine (all_ok g A2 L n c2 lc z (by omega) hn HZ.out (fresh_ne HLF.out (by rw [HS1.out]; omega)) HA2.out _ ((RS.new HRS.out _).on HB3.out) HL.out).mono ?_; rintro e w4 ⟨B, cB, rfl, hR4, hg4⟩; have HR4 := Lib.hid hR4; have HG4 := Lib.hid hg4; clear hR4 hg4))
    all_goals (dsimp only [onlyNormal]; go_wp2; go_meet; exact mid_ok rfl HB1.out (by simpa using hg) HS1.out HB3.out HR4.out HG4.out HR.out)
  case rest =>
    obtain ⟨B, cB, rfl, hR, hrA, hbH, hbP, hbE, hbel, hsz⟩ := hcut
    obtain ⟨b, off, rfl, hbb, hcl⟩ := hR (by decide)
    have cl0 : wc.cell? ⟨b, off, none⟩ = some (.int .u64 ((getv z 0 4 : Nat) : Int)) := hcl 0 (by decide)
    obtain ⟨F, hF⟩ : ∃ F, F = getv z 0 4 := ⟨_, rfl⟩
    rw [← hF] at cl0 hv
    have hv1 : ¬ ((F : Int) = 5) := by omega
    have hv2 : ((F : Int) == 5) = false := by simp; omega
    have hv3 : decide ((F : Int) = 5) = false := by simp; omega
    have HBH := Lib.hid hbH
    have HBP := Lib.hid hbP
    have HBE := Lib.hid hbE
    have HBL := Lib.hid hbel
    clear hR hrA hbH hbP hbE hbel hsz hcl hF hbb
    go_wp2_with (go_at_call 49; refine (must_false 9 _).mono ?_; rintro e w1 ⟨rfl, rfl⟩)
    exact bad_leaves w _ (fun _ => 0) (.slice none 0 0) 0 9 w.heap.size _ rfl HBH.out HBP.out HBE.out HBL.out rfl rfl rfl
end Go.Proofs.Ytejadoadpgcpjaa
