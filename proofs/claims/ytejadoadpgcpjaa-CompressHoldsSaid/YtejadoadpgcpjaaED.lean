/- field.Writer: check, PutAll of one field, Put, Bytes. -/
import Derived.Test.YtejadoadpgcpjaaEC
namespace Go.Proofs.Ytejadoadpgcpjaa
open Go.RowKit

theorem div_pow_zero (v width : Nat) (h : v < 2 ^ width) : (v : Int) / 2 ^ width = 0 := by
  have : ((v / 2 ^ width : Nat) : Int) = 0 := by rw [Nat.div_eq_of_lt h]; rfl
  simpa using this

theorem grown_of_below {a w : World} (h : Below a.heap.size a w) (row : Option Nat) : a.grownBy w row := ⟨h.os, h.tape, h.output, h.size, fun i hi _ => h.block i hi⟩
theorem WS.below {w w' : World} {g n : Nat} {bt : Nat → Bool} (h : WS w g bt n) (hb : Below w.heap.size w w') : WS w' g bt n :=
  (WS.own (β := Unit) g (fun _ => bt) (fun _ => n)) () w w' none h (grown_of_below hb none) (fun r e => by cases e)
theorem WS.alloc {w : World} {g n : Nat} {bt : Nat → Bool} (h : WS w g bt n) (o : Obj) : WS (w.alloc o) g bt n := h.below ((Below.refl _ w).alloc (Nat.le_refl _) o)
theorem WS.drew {w : World} {g n : Nat} {bt : Nat → Bool} (h : WS w g bt n) : WS w.drew g bt n := h
theorem check_ok (v width : Nat) (hw : width < 64) (h : v < 2 ^ width) (w : World) :
    Calls Try.prog 99 #[.agg #[.int .u64 (v : Int), .int .i64 (width : Int)]] w fun e w' => e = .returned (.int .i64 0) ∧ Below w.heap.size w w' := by
  have hz := div_pow_zero v width h
  have hmin : min width 64 = width := by omega
  go_enter Try.func99, Try.ntmps99
  go_wp2
  go_ret
  exact ⟨rfl, (Below.refl _ _).alloc (Nat.le_refl _) _⟩

set_option maxRecDepth 100000 in
set_option maxHeartbeats 1600000 in
theorem putAll_ok (g fb : Nat) (bt : Nat → Bool) (n v width : Nat) (hw : width < 64) (hv : v < 2 ^ width) (hn : n ≤ 100000) (hbt : ∀ k, k < width → bt (n + k) = vbit v width k) (w : World) (h : WS w g bt n) (hf : Blk w fb 149 #[.int .u64 (v : Int), .int .i64 (width : Int)]) :
    Calls Try.prog 88 #[.pointer (some ⟨g, 0, none⟩), .slice (some ⟨fb, 0, none⟩) 1 1] w fun e w' => e = .returned (.int .i64 0) ∧ WS w' g bt (n + width) ∧ Below g w w' := by
  have hv64 : v < 18446744073709551616 := Nat.lt_of_lt_of_le hv (Nat.le_trans (Nat.pow_le_pow_right (by decide) (by omega : width ≤ 64)) (by decide))
  have HS := Lib.hid h
  have HBT := Lib.hid hbt
  have HF := Lib.hid hf
  have HV := Lib.hid hv
  have HV64 := Lib.hid hv64
  have c0 : w.cell? ⟨fb, 0, none⟩ = some (.int .u64 (v : Int)) := hf.cell 0
  have c1 : w.cell? ⟨fb, 1, none⟩ = some (.int .i64 (width : Int)) := hf.cell 1
  have hlt := hf.lt
  have hgl := h.lt
  clear h hbt hv hv64 hf
  go_enter Try.func88, Try.ntmps88
  go_wp2
  refine wp_loop_rounds 2 ?_
  rw [rounds_succ]
  go_wp2_with (go_at_call 99; refine (check_ok v width hw HV.out _).mono ?_; rintro e w1 ⟨rfl, hb1⟩)
  have hb1' : Below w.heap.size w w1 := ((Below.refl _ w).alloc (Nat.le_refl _) _).trans (hb1.mono (by simp))
  have q0 : w1.cell? ⟨fb, 0, none⟩ = some (.int .u64 (v : Int)) := (hb1'.cell (p := ⟨fb, 0, none⟩) hlt).trans (HF.out.cell 0)
  have q1 : w1.cell? ⟨fb, 1, none⟩ = some (.int .i64 (width : Int)) := (hb1'.cell (p := ⟨fb, 1, none⟩) hlt).trans (HF.out.cell 1)
  have HS1 := Lib.hid (HS.out.below hb1')
  have HB1 := Lib.hid hb1'
  clear c0 c1 hb1 hb1'
  rw [rounds_succ]
  go_wp2
  refine wp_loop_rounds 2 ?_
  rw [rounds_succ]
  go_wp2_with (go_at_call 100; refine (put_ok g bt n v width HV64.out (by omega) hn HBT.out _ (HS1.out.alloc _)).mono ?_; rintro e w2 ⟨rfl, hS2, hb2⟩)
  rw [rounds_succ]
  go_wp2
  go_ret
  exact ⟨rfl, hS2, ((HB1.out.mono (Nat.le_of_lt hgl)).alloc (by have := HB1.out.size; omega) _).trans hb2⟩

def PutEnd (g : Nat) (bt : Nat → Bool) (n : Nat) (w : World) (e : Ending) (w' : World) : Prop := e = .returned (.int .i64 0) ∧ WS w' g bt n ∧ Below g w w'
set_option maxRecDepth 100000 in
set_option maxHeartbeats 800000 in
theorem Put_ok (g : Nat) (bt : Nat → Bool) (n v width : Nat) (hw : width < 64) (hv : v < 2 ^ width) (hn : n ≤ 100000) (hbt : ∀ k, k < width → bt (n + k) = vbit v width k) (w : World) (h : WS w g bt n) :
    Calls Try.prog 55 #[.pointer (some ⟨g, 0, none⟩), .int .u64 (v : Int), .int .i64 (width : Int)] w (PutEnd g bt (n + width) w) := by
  have HS := Lib.hid h
  have HBT := Lib.hid hbt
  have HV := Lib.hid hv
  have hgl := h.lt
  clear h hbt hv
  go_enter Try.func55, Try.ntmps55
  go_wp2_with (go_at_call 88; refine (putAll_ok g w.heap.size bt n v width hw HV.out hn HBT.out _ (HS.out.alloc _) (Blk.new _ _ _)).mono ?_; rintro e w1 ⟨rfl, hS1, hb1⟩)
  go_ret
  exact ⟨rfl, hS1, ((Below.refl g w).alloc (Nat.le_of_lt hgl) _).trans hb1⟩

set_option maxRecDepth 100000 in
set_option maxHeartbeats 800000 in
theorem Bytes_ok (g : Nat) (bt : Nat → Bool) (n : Nat) (hn : n ≤ 100000) (w : World) (h : WS w g bt n) :
    Calls Try.prog 56 #[.pointer (some ⟨g, 0, none⟩)] w fun e w' => ∃ A c, e = .returned (.slice A ((n + 7) / 8) c) ∧ (n + 7) / 8 ≤ c ∧ w'.ownsRow w.heap.size 5 1 (.slice A ((n + 7) / 8) c) ((n + 7) / 8) ((List.range ((n + 7) / 8)).map (fun j => .int .u8 ((HM.pk bt n j : Nat) : Int))) ∧ Below w.heap.size w w' := by
  obtain ⟨v, hB, hown⟩ := h
  obtain ⟨A, cap, rfl, _, _, _, hr⟩ := own_any (f := fun j => .int .u8 ((HM.pk bt n j : Nat) : Int)) hown (fun j hj => pkList_at _ _ _ _ hj)
  have c0 : w.cell? ⟨g, 0, none⟩ = some (.slice A ((n + 7) / 8) cap) := hB.cell 0
  have HR := Lib.hid (clone_own A ((n + 7) / 8) cap (fun j => ((HM.pk bt n j : Nat) : Int)) w (by omega) hr)
  clear hown hr hB
  go_enter Try.func56, Try.ntmps56
  go_wp2_with (go_at_call 54; refine (HR.out).mono ?_; rintro e w1 ⟨A2, c2, rfl, hc2, hR, hb⟩; have HC2 := Lib.hid hc2; clear hc2)
  go_ret
  exact ⟨A2, c2, rfl, HC2.out, hR, hb⟩
end Go.Proofs.Ytejadoadpgcpjaa
