/- The example of chapter 42 works. -/
import Derived.Test.YtejadoadpgcpjaaFN
import Derived.Laws.StructEq
namespace Go.Proofs.Ytejadoadpgcpjaa
open Go.RowKit

theorem Blk.nine {w : World} {g : Nat} {t : TypeId} {a0 a1 a2 a3 a4 a5 a6 a7 a8 : Value} (h : Blk w g t #[a0, a1, a2, a3, a4, a5, a6, a7, a8]) :
    w.cell? ⟨g, 0, none⟩ = some a0 ∧ w.cell? ⟨g, 1, none⟩ = some a1 ∧ w.cell? ⟨g, 2, none⟩ = some a2 ∧ w.cell? ⟨g, 3, none⟩ = some a3 ∧ w.cell? ⟨g, 4, none⟩ = some a4 ∧ w.cell? ⟨g, 5, none⟩ = some a5 ∧ w.cell? ⟨g, 6, none⟩ = some a6 ∧ w.cell? ⟨g, 7, none⟩ = some a7 ∧ w.cell? ⟨g, 8, none⟩ = some a8 :=
  ⟨h.cell 0, h.cell 1, h.cell 2, h.cell 3, h.cell 4, h.cell 5, h.cell 6, h.cell 7, h.cell 8⟩

def hw (k : Nat) : Int := ([1, 2, 3, 4, 5, 6, 7, 8, 0] : List Int).getD k 0
def hwide (k : Nat) : Int := ([16, 2, 3, 4, 5, 6, 7, 8, 0] : List Int).getD k 0
def wz (j : Nat) : Int := ([81, 0, 2, 0, 0, 0, 3, 0, 0, 0, 4, 5, 6, 0, 7, 0, 0, 8, 0, 21, 170] : List Int).getD j 0
theorem wz_pkt : ∀ j, j < 21 → pktAt (withLen hw (20 + (1 : Nat))) (fun _ => 170) j = wz j := by decide +kernel
theorem wz_byte : ∀ j, j < 21 → 0 ≤ wz j ∧ wz j < 256 := by decide +kernel
theorem wz_str : bytesOf 21 wz = ⟨#[81, 0, 2, 0, 0, 0, 3, 0, 0, 0, 4, 5, 6, 0, 7, 0, 0, 8, 0, 21, 170]⟩ := by decide +kernel
theorem one_str : bytesOf 1 (fun _ => 170) = ⟨#[170]⟩ := by decide +kernel

theorem num_ok (x : Int) (w : World) : Calls Try.prog 18 #[.int .i64 x] w fun e w' => e = .returned (.int .i64 x) ∧ w = w' := by
  go_enter Try.func18, Try.ntmps18
  go_wp2
  go_ret
  exact ⟨rfl, rfl⟩

theorem Blk.one_row {w : World} {B g : Nat} {t : TypeId} {x : Value} (h : Blk w g t #[x]) (hB : g < B) : Row w B (some ⟨g, 0, none⟩) 1 (fun _ => x) := fun _ => ⟨g, 0, rfl, hB, fun j hj => by
  obtain rfl : j = 0 := by omega
  exact h.cell 0⟩
theorem wb1 (W : World) (N : Nat) (hN : W.heap.size = N) : Calls Try.prog 19 #[.agg #[.int .i64 1, .int .i64 2, .int .i64 3, .int .i64 4, .int .i64 5, .int .i64 6, .int .i64 7, .int .i64 8, .int .i64 0], .slice (some ⟨N, 0, none⟩) 1 1] (W.alloc (.cells #[.int .u8 170] 5)) fun e w' =>
    ∃ A c, e = .returned (.tuple #[.slice A 21 c, .int .i64 0]) ∧ 21 ≤ c ∧ Row w' w'.heap.size A 21 (fun j => .int .u8 (wz j)) ∧ Below W.heap.size W w' := by
  subst hN
  refine (build_good hw (some ⟨W.heap.size, 0, none⟩) 1 1 (fun _ => 170) (by decide) (by decide +kernel) _ ((Blk.new W 5 #[.int .u8 170]).one_row (by simp))).mono ?_
  rintro e w' ⟨A, c, rfl, hc, ho, hb⟩
  exact ⟨A, c, rfl, hc, (own_map_row ho).2.congr (fun j hj => by rw [wz_pkt j hj]), ((Below.refl _ W).alloc (Nat.le_refl _) _).trans (hb.mono (by simp))⟩
theorem wb2 (W : World) : Calls Try.prog 19 #[.agg #[.int .i64 16, .int .i64 2, .int .i64 3, .int .i64 4, .int .i64 5, .int .i64 6, .int .i64 7, .int .i64 8, .int .i64 0], .slice none 0 0] W fun e w' =>
    e = .returned (.tuple #[.slice none 0 0, .int .i64 2]) ∧ Below W.heap.size W w' :=
  build_bad hwide none 0 0 (by decide) (by decide +kernel) W
theorem we1 (W : World) : Calls Try.prog 21 #[.agg #[.int .i64 1, .int .i64 2, .int .i64 3, .int .i64 4, .int .i64 5, .int .i64 6, .int .i64 7, .int .i64 8, .int .i64 0]] W fun e w' =>
    e = .returned (.tuple #[.slice none 0 0, .int .i64 2]) ∧ Below W.heap.size W w' :=
  encode_bad hw (by decide +kernel) W
theorem wp1 (W : World) (A : Option Addr) (c : Nat) (hc : 21 ≤ c) (hr : Row W W.heap.size A 21 (fun j => .int .u8 (wz j))) : Calls Try.prog 16 #[.slice A 21 c] W fun e w' =>
    ∃ P c, e = .returned (.tuple #[.agg #[.int .i64 1, .int .i64 2, .int .i64 3, .int .i64 4, .int .i64 5, .int .i64 6, .int .i64 7, .int .i64 8, .int .i64 21], .slice P 1 c, .int .i64 0]) ∧ Row w' w'.heap.size P 1 (fun _ => .int .u8 170) ∧ Below W.heap.size W w' := by
  refine (parse_any A 21 c wz hc wz_byte W hr).mono ?_
  rintro e w' ⟨P, c, rfl, hc, ho, hb⟩
  have e0 : pErr 21 wz = 0 := by decide +kernel
  have e1 : pLen 21 wz = 1 := by decide +kernel
  have e2 : hdr (pHdr 21 wz) = #[.int .i64 1, .int .i64 2, .int .i64 3, .int .i64 4, .int .i64 5, .int .i64 6, .int .i64 7, .int .i64 8, .int .i64 21] := by kernel_rfl
  rw [e1] at ho
  have hj1 : ∀ j, j < 1 → Value.int .u8 (wz (20 + j)) = .int .u8 170 := by
    intro j hj
    obtain rfl : j = 0 := by omega
    rfl
  exact ⟨P, c, by rw [e0, e1, e2], (own_map_row ho).2.congr hj1, hb⟩
theorem wp2 (W : World) (A : Option Addr) (c : Nat) : Calls Try.prog 16 #[.slice A 19 c] W fun e w' =>
    e = .returned (.tuple #[.agg #[.int .i64 0, .int .i64 0, .int .i64 0, .int .i64 0, .int .i64 0, .int .i64 0, .int .i64 0, .int .i64 0, .int .i64 0], .slice none 0 0, .int .i64 5]) ∧ Below W.heap.size W w' :=
  parse_short A 19 c (by decide) W
theorem wp3 (W : World) (A : Option Addr) (c : Nat) (hc : 20 ≤ c) (hr : Row W W.heap.size A 21 (fun j => .int .u8 (wz j))) : Calls Try.prog 16 #[.slice A 20 c] W fun e w' =>
    ∃ P c, e = .returned (.tuple #[.agg #[.int .i64 0, .int .i64 0, .int .i64 0, .int .i64 0, .int .i64 0, .int .i64 0, .int .i64 0, .int .i64 0, .int .i64 0], .slice P 0 c, .int .i64 9]) ∧ Below W.heap.size W w' := by
  refine (parse_any A 20 c wz hc (fun j hj => wz_byte j (by omega)) W (hr.take (by decide))).mono ?_
  rintro e w' ⟨P, c, rfl, hc, ho, hb⟩
  have e0 : pErr 20 wz = 9 := by decide +kernel
  have e1 : pLen 20 wz = 0 := by decide +kernel
  have e2 : hdr (pHdr 20 wz) = #[.int .i64 0, .int .i64 0, .int .i64 0, .int .i64 0, .int .i64 0, .int .i64 0, .int .i64 0, .int .i64 0, .int .i64 0] := by kernel_rfl
  exact ⟨P, c, by rw [e0, e1, e2], hb⟩

theorem nine_apart {a0 a1 a2 a3 a4 a5 a6 a7 a8 : Int} {v : Nat → Int} : ∀ i : Nat, i < (#[.int .i64 a0, .int .i64 a1, .int .i64 a2, .int .i64 a3, .int .i64 a4, .int .i64 a5, .int .i64 a6, .int .i64 a7, .int .i64 a8] : Array Value).size → ∀ j, (#[.int .i64 a0, .int .i64 a1, .int .i64 a2, .int .i64 a3, .int .i64 a4, .int .i64 a5, .int .i64 a6, .int .i64 a7, .int .i64 a8] : Array Value)[i]? ≠ some (.int .u8 (v j)) := by
  intro i hi j
  have h9 : i < 9 := hi
  match i, h9 with
  | 0, _ => simp
  | 1, _ => simp
  | 2, _ => simp
  | 3, _ => simp
  | 4, _ => simp
  | 5, _ => simp
  | 6, _ => simp
  | 7, _ => simp
  | 8, _ => simp

set_option maxRecDepth 100000 in
set_option maxHeartbeats 1600000 in
theorem works_true (w : World) : Calls Try.prog 15 #[] w fun e w' => e = .returned (.bool true) ∧ Below w.heap.size w w' := by
  go_enter Try.func15, Try.ntmps15
  go_wp2_with (first
    | (go_at_call 18; refine (num_ok _ _).mono ?_; rintro e w0 ⟨rfl, rfl⟩)
    | (go_at_call 19; ((with_reducible refine (wb1 _ _ (by simp)).mono ?_); rintro e w1 ⟨A, c, rfl, hc, hR, hb1⟩; have HR := Lib.hid hR; have HB1 := Lib.hid hb1; have HC := Lib.hid hc; have hc19 : (19 : Int) ≤ (c : Int) := (by omega); have hc20 : (20 : Int) ≤ (c : Int) := (by omega); have s1 := row_string 22 9 5 Try.underlying22 Try.underlying5 Try.underlying9 hR c; rw [wz_str] at s1; clear hR hb1 hc; have K1 := (Blk.new w 25 #[.int .i64 1, .int .i64 2, .int .i64 3, .int .i64 4, .int .i64 5, .int .i64 6, .int .i64 7, .int .i64 8, .int .i64 0]).below HB1.out (by simp); have HK1 := Lib.hid K1; clear K1; obtain ⟨a0, a1, a2, a3, a4, a5, a6, a7, a8⟩ := HK1.out.nine; have hs1 : w.heap.size < w1.heap.size := HK1.out.lt))
    | (go_at_call 16; ((with_reducible refine (wp1 _ A c HC.out HR.out).mono ?_); rintro e w2 ⟨P, c2, rfl, hP, hb2⟩; have HP := Lib.hid hP; have HB2 := Lib.hid hb2; have HK2 := Lib.hid (HK1.out.below hb2 HK1.out.lt); have HR2 := Lib.hid (row_new (HR.out.next hb2) (.cells #[.int .i64 1, .int .i64 2, .int .i64 3, .int .i64 4, .int .i64 5, .int .i64 6, .int .i64 7, .int .i64 8, .int .i64 21] 25)); have HG2 := Lib.hid (Blk.new w2 25 #[.int .i64 1, .int .i64 2, .int .i64 3, .int .i64 4, .int .i64 5, .int .i64 6, .int .i64 7, .int .i64 8, .int .i64 21]); clear hP hb2))
    | (go_at_call 16; ((with_reducible refine (wp2 _ A c).mono ?_); rintro e w3 ⟨rfl, hb3⟩; have HB3 := Lib.hid hb3; have HK3 := Lib.hid ((HK2.out.alloc _).below hb3 (HK2.out.alloc _).lt); have HR3 := Lib.hid (row_new (HR2.out.next hb3) (.cells #[.int .i64 0, .int .i64 0, .int .i64 0, .int .i64 0, .int .i64 0, .int .i64 0, .int .i64 0, .int .i64 0, .int .i64 0] 25)); have HG3 := Lib.hid (HG2.out.below hb3 HG2.out.lt); clear hb3))
    | (go_at_call 16; ((with_reducible refine (wp3 _ A c (by omega) HR3.out).mono ?_); rintro e w4 ⟨P4, c4, rfl, hb4⟩; have HB4 := Lib.hid hb4; have HK4 := Lib.hid ((HK3.out.alloc _).below hb4 (HK3.out.alloc _).lt); have HG4 := Lib.hid ((HG3.out.alloc _).below hb4 (HG3.out.alloc _).lt); clear hb4; obtain ⟨b0, b1, b2, b3, b4, b5, b6, b7, b8⟩ := HK4.out.nine; have hs4 : w.heap.size < w4.heap.size := HK4.out.lt; have hs5 : w2.heap.size < w4.heap.size := HG4.out.lt))
    | (go_at_call 19; ((with_reducible refine (wb2 _).mono ?_); rintro e w5 ⟨rfl, hb5⟩; have HB5 := Lib.hid hb5; have HK5 := Lib.hid (((HK4.out.alloc _).alloc _).below hb5 ((HK4.out.alloc _).alloc _).lt); have HG5 := Lib.hid (((HG4.out.alloc _).alloc _).below hb5 ((HG4.out.alloc _).alloc _).lt); clear hb5; obtain ⟨d0, d1, d2, d3, d4, d5, d6, d7, d8⟩ := HK5.out.nine))
    | (go_at_call 21; ((with_reducible refine (we1 _).mono ?_); rintro e w6 ⟨rfl, hb6⟩; have HB6 := Lib.hid hb6; have HK6 := Lib.hid (HK5.out.below hb6 HK5.out.lt); have HG6 := Lib.hid (HG5.out.below hb6 HG5.out.lt); clear hb6; obtain ⟨e0, e1, e2, e3, e4, e5, e6, e7, e8⟩ := HK6.out.nine; obtain ⟨g0, g1, g2, g3, g4, g5, g6, g7, g8⟩ := HG6.out.nine; have hf8 := HK6.out.frozen 8; have s6 := row_string 22 9 5 Try.underlying22 Try.underlying5 Try.underlying9 (Row.apart (p := ⟨w.heap.size, 8, none⟩) (((((row_new (row_new ((row_new ((row_new HP.out _).next HB3.out) _).next HB4.out) _) _).next HB5.out).next HB6.out))) HK6.out nine_apart rfl (.int .i64 21)) c2; rw [one_str] at s6; have hne1 : w2.heap.size ≠ w.heap.size := (by have := HK2.out.lt; omega); have hne2 : w.heap.size ≠ w2.heap.size := (by omega))))
  go_ret
  have h1 : Below w.heap.size w w1 := ((Below.refl _ w).alloc (Nat.le_refl _) _).trans (HB1.out.mono (by simp))
  exact ⟨rfl, (below_step (below_step (below_new (below_new (below_step (below_new (below_step (below_new (below_step h1 HB2.out) _) HB3.out) _) HB4.out) _) _) HB5.out) HB6.out).setCell (Nat.le_refl _) _⟩
end Go.Proofs.Ytejadoadpgcpjaa
