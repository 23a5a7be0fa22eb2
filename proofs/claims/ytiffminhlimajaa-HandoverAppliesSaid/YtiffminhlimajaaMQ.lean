/- law 47, XHQ without what XU has. -/
import Derived.Test.YtiffminhlimajaaMP
namespace Go.Proofs.Ytiffminhlimajaa
open Go.RowKit
def sfirst (m : Nat) (z : Nat → Int) : Int := if serr m z = 0 then fu z 4 else 0
def slen (m : Nat) (z : Nat → Int) : Nat := if serr m z = 0 then nbits m z else 0
def RepU (m : Nat) (z : Nat → Int) (w : World) (e : Ending) (w' : World) : Prop :=
  ∃ A c, e = .returned (.tuple #[.agg (ctl 0 (sfirst m z) A (slen m z) c none 0 0), .int .i64 (serr m z)]) ∧ Row w' w'.heap.size A (slen m z) (fun j => .bool (HM.hb (pay z) j)) ∧ Below w.heap.size w w'
theorem repU_of {m : Nat} {z : Nat → Int} {w : World} {e : Ending} {w' : World} (h : RepPost m z w e w') : RepU m z w e w' := by
  obtain ⟨⟨h0, rfl⟩ | ⟨h0, A, c, rfl, hR⟩, hb⟩ := h
  · exact ⟨none, 0, by unfold sfirst slen; rw [if_neg h0, if_neg h0], by unfold slen; rw [if_neg h0]; exact Row.nil, hb⟩
  · exact ⟨A, c, by unfold sfirst slen; rw [if_pos h0, if_pos h0, h0], by unfold slen; rw [if_pos h0]; exact hR, hb⟩
/-- the four stores of a Control -/
theorem Row.four_stores {w : World} {A : Option Addr} {n g : Nat} {v : Nat → Value} {t : TypeId} {k f x y k' f' x' y' : Value} (h : Row w w.heap.size A n v) (hB : Blk w g t #[k, f, x, y])
    (hne : ∀ u j, u ∈ [k, f, x, y, k', f', x', y'] → u ≠ v j) :
    Row ((((w.setCell ⟨g, 0, none⟩ k').setCell ⟨g, 1, none⟩ f').setCell ⟨g, 2, none⟩ x').setCell ⟨g, 3, none⟩ y') ((((w.setCell ⟨g, 0, none⟩ k').setCell ⟨g, 1, none⟩ f').setCell ⟨g, 2, none⟩ x').setCell ⟨g, 3, none⟩ y').heap.size A n v := by
  have ne : ∀ a b c d : Value, (∀ u, u ∈ [a, b, c, d] → u ∈ [k, f, x, y, k', f', x', y']) → ∀ i : Nat, i < #[a, b, c, d].size → ∀ j, #[a, b, c, d][i]? ≠ some (v j) := by
    intro a b c d hs i hi j e
    have hi4 : i < 4 := hi
    match i, hi4 with
    | 0, _ => exact hne a j (hs a (by simp)) (by simpa using e)
    | 1, _ => exact hne b j (hs b (by simp)) (by simpa using e)
    | 2, _ => exact hne c j (hs c (by simp)) (by simpa using e)
    | 3, _ => exact hne d j (hs d (by simp)) (by simpa using e)
  have h1 := h.apart hB (ne _ _ _ _ (by simp_all)) (p := ⟨g, 0, none⟩) rfl k'
  have B1 : Blk (w.setCell ⟨g, 0, none⟩ k') g t #[k', f, x, y] := hB.set_ 0 k'
  have h2 := h1.apart B1 (ne _ _ _ _ (by simp_all)) (p := ⟨g, 1, none⟩) rfl f'
  have B2 : Blk ((w.setCell ⟨g, 0, none⟩ k').setCell ⟨g, 1, none⟩ f') g t #[k', f', x, y] := B1.set_ 1 f'
  have h3 := h2.apart B2 (ne _ _ _ _ (by simp_all)) (p := ⟨g, 2, none⟩) rfl x'
  have B3 : Blk (((w.setCell ⟨g, 0, none⟩ k').setCell ⟨g, 1, none⟩ f').setCell ⟨g, 2, none⟩ x') g t #[k', f', x', y] := B2.set_ 2 x'
  exact h3.apart B3 (ne _ _ _ _ (by simp_all)) (p := ⟨g, 3, none⟩) rfl y'
/-- the bytes behind the first -/
def dz (z : Nat → Int) (j : Nat) : Int := z (1 + j)
def derr (m : Nat) (z : Nat → Int) : Int := if m = 0 then 5 else if z 0 = 0 then serr (m - 1) (dz z) else if z 0 = 16 then (if m = 1 then 5 else 0) else 9
def dkind (m : Nat) (z : Nat → Int) : Int := if 1 < m ∧ z 0 = 16 then 1 else 0
def dfirst (m : Nat) (z : Nat → Int) : Int := if 0 < m ∧ z 0 = 0 then sfirst (m - 1) (dz z) else 0
def dlen (m : Nat) (z : Nat → Int) : Nat := if 0 < m ∧ z 0 = 0 then slen (m - 1) (dz z) else 0
def dfeed (m : Nat) (z : Nat → Int) : Nat := if 1 < m ∧ z 0 = 16 then m - 1 else 0
def DecPost (m : Nat) (z : Nat → Int) (w : World) (e : Ending) (w' : World) : Prop :=
  ∃ A c B d, e = .returned (.tuple #[.agg (ctl (dkind m z) (dfirst m z) A (dlen m z) c B (dfeed m z) d), .int .i64 (derr m z)]) ∧ Row w' w'.heap.size A (dlen m z) (fun j => .bool (HM.hb (pay (dz z)) j)) ∧ Row w' w'.heap.size B (dfeed m z) (fun j => .int .u8 (dz z j)) ∧ Below w.heap.size w w'
theorem sub_row {w : World} {B lb lo m : Nat} {z : Nat → Int} (hc : ∀ j, j < m → w.cell? ⟨lb, lo + j, none⟩ = some (.int .u8 (z j))) (hlb : lb < B) : Row w B (some ⟨lb, lo + 1, none⟩) (m - 1) (fun j => .int .u8 (dz z j)) :=
  fun _ => ⟨lb, lo + 1, rfl, hlb, fun j hj => by have := hc (1 + j) (by omega); rw [← Nat.add_assoc] at this; exact this⟩
set_option maxRecDepth 100000 in
set_option maxHeartbeats 3200000 in
theorem refDecode_any (m c : Nat) (A : Option Addr) (z : Nat → Int) (w : World) (hm : m ≤ maxLen) (hmc : m ≤ c) (hz : ∀ j, j < m → 0 ≤ z j ∧ z j < 256) (hr : Row w w.heap.size A m (fun j => .int .u8 (z j))) :
    Calls Try.prog 8 #[.slice A m c] w (DecPost m z w) := by
  unfold maxLen at hm
  have HZ := Lib.hid hz
  by_cases h0 : m = 0
  · have e : derr m z = 5 ∧ dkind m z = 0 ∧ dfirst m z = 0 ∧ dlen m z = 0 ∧ dfeed m z = 0 := by subst h0; simp [derr, dkind, dfirst, dlen, dfeed]
    obtain ⟨k1, k2, k3, k4, k5⟩ := e
    have e3 : DecPost m z w = fun e w' => ∃ A c B d, e = .returned (.tuple #[.agg (ctl 0 0 A 0 c B 0 d), .int .i64 5]) ∧ Row w' w'.heap.size A 0 (fun j => .bool (HM.hb (pay (dz z)) j)) ∧ Row w' w'.heap.size B 0 (fun j => .int .u8 (dz z j)) ∧ Below w.heap.size w w' := by
      funext e w'; unfold DecPost; rw [k1, k2, k3, k4, k5]
    rw [e3]
    clear k1 k2 k3 k4 k5 e3 hr hz
    subst h0
    go_enter Try.func8, Try.ntmps8
    go_wp2
    refine bodyPost_ret (v := .tuple #[.agg #[.int .i64 0, .int .u32 0, .slice none 0 0, .slice none 0 0], .int .i64 5]) (by simp [results, Try.results8, go_sem]) rfl ⟨none, 0, none, 0, rfl, Row.nil, Row.nil, (Below.refl w.heap.size w).alloc (Nat.le_refl _) _⟩
  · obtain ⟨lb, lo, rfl, hlb, hlc⟩ := hr (by omega)
    have hl0 : w.cell? ⟨lb, lo, none⟩ = some (.int .u8 (z 0)) := hlc 0 (by omega)
    have HL := Lib.hid hlc
    have hm0 : (0 : Int) < (m : Int) := by omega
    have hmn : ((m : Int) == 0) = false := by simp; omega
    clear hlc hz hr
    by_cases hz0 : z 0 = 0
    · have e : derr m z = serr (m - 1) (dz z) ∧ dkind m z = 0 ∧ dfirst m z = sfirst (m - 1) (dz z) ∧ dlen m z = slen (m - 1) (dz z) ∧ dfeed m z = 0 := by
        simp [derr, dkind, dfirst, dlen, dfeed, h0, hz0, Nat.pos_of_ne_zero h0]
      obtain ⟨k1, k2, k3, k4, k5⟩ := e
      rw [hz0] at hl0
      clear hz0
      have hrep : ∀ (w1 : World) (A1 : Option Addr) (c1 : Nat), m - 1 ≤ c1 → Row w1 w1.heap.size A1 (m - 1) (fun j => .int .u8 (dz z j)) → Calls Try.prog 24 #[.slice A1 (m - 1) c1] w1 (RepU (m - 1) (dz z) w1) := fun w1 A1 c1 h1 hR =>
        (report_any (m - 1) c1 A1 (dz z) w1 (by unfold maxLen; omega) h1 (fun j hj => HZ.out (1 + j) (by omega)) hR).mono fun _ _ h => repU_of h
      have HRp := Lib.hid hrep
      have K := Lib.hid (And.intro k1 (And.intro k2 (And.intro k3 (And.intro k4 k5))))
      clear hrep k1 k2 k3 k4 k5
      by_cases hc1 : c = 1
      · subst hc1
        obtain rfl : m = 1 := by omega
        go_enter Try.func8, Try.ntmps8
        go_wp2_with (go_at_call 24; refine (HRp.out _ _ _ (by omega) Row.nil).mono ?_; rintro e w1 ⟨A1, c1, rfl, hR, hb⟩; unfold ctl; have R0 : Blk w1 w.heap.size 43 #[.int .i64 0, .int .u32 0, .slice none 0 0, .slice none 0 0] := (Blk.new _ _ _).below hb (by simp); obtain ⟨c0, c1', c2, c3, f0, f1, f2, f3⟩ := R0.four; have R := Lib.hid R0; clear R0)
        obtain ⟨k1, k2, k3, k4, k5⟩ := K.out
        obtain ⟨y0, y1, y2, y3, _, _, _, _⟩ := Blk.four (a := .int .i64 0) (b := .int .u32 (sfirst 0 (dz z))) (c := .slice A1 (slen 0 (dz z)) c1) (d := .slice none 0 0) ((((R.out.set_ 0 (.int .i64 0)).set_ 1 (.int .u32 (sfirst 0 (dz z)))).set_ 2 (.slice A1 (slen 0 (dz z)) c1)).set_ 3 (.slice none 0 0))
        refine bodyPost_ret (v := .tuple #[.agg #[.int .i64 0, .int .u32 (sfirst 0 (dz z)), .slice A1 (slen 0 (dz z)) c1, .slice none 0 0], .int .i64 (serr 0 (dz z))]) (by simp [results, Try.results8, go_sem, y0, y1, y2, y3]) rfl ⟨A1, c1, none, 0, by rw [k1, k2, k3, k4, k5]; rfl, ?_, by rw [k5]; exact Row.nil, ?_⟩
        · rw [k4]
          exact hR.four_stores R.out (by intro u j hu; simp at hu; rcases hu with rfl | rfl | rfl | rfl | rfl | rfl | rfl <;> simp)
        · exact (((((((Below.refl w.heap.size w).alloc (Nat.le_refl _) _).trans (hb.mono (by simp))).setCell (by simp) _).setCell (by simp) _).setCell (by simp) _).setCell (by simp) _)
      · have hc2 : (1 : Int) < (c : Int) := by omega
        go_enter Try.func8, Try.ntmps8
        go_wp2_with (go_at_call 24; refine (HRp.out _ _ _ (by omega) (sub_row (fun j hj => (World.cell?_alloc_lt w _ ⟨lb, lo + j, none⟩ (by simpa using hlb)).trans (HL.out j hj)) (by simp; omega))).mono ?_; rintro e w1 ⟨A1, c1, rfl, hR, hb⟩; unfold ctl; have R0 : Blk w1 w.heap.size 43 #[.int .i64 0, .int .u32 0, .slice none 0 0, .slice none 0 0] := (Blk.new _ _ _).below hb (by simp); obtain ⟨c0, c1', c2, c3, f0, f1, f2, f3⟩ := R0.four; have R := Lib.hid R0; clear R0)
        obtain ⟨k1, k2, k3, k4, k5⟩ := K.out
        obtain ⟨y0, y1, y2, y3, _, _, _, _⟩ := Blk.four (a := .int .i64 0) (b := .int .u32 (sfirst (m - 1) (dz z))) (c := .slice A1 (slen (m - 1) (dz z)) c1) (d := .slice none 0 0) ((((R.out.set_ 0 (.int .i64 0)).set_ 1 (.int .u32 (sfirst (m - 1) (dz z)))).set_ 2 (.slice A1 (slen (m - 1) (dz z)) c1)).set_ 3 (.slice none 0 0))
        refine bodyPost_ret (v := .tuple #[.agg #[.int .i64 0, .int .u32 (sfirst (m - 1) (dz z)), .slice A1 (slen (m - 1) (dz z)) c1, .slice none 0 0], .int .i64 (serr (m - 1) (dz z))]) (by simp [results, Try.results8, go_sem, y0, y1, y2, y3]) rfl ⟨A1, c1, none, 0, by rw [k1, k2, k3, k4, k5]; rfl, ?_, by rw [k5]; exact Row.nil, ?_⟩
        · rw [k4]
          exact hR.four_stores R.out (by intro u j hu; simp at hu; rcases hu with rfl | rfl | rfl | rfl | rfl | rfl | rfl <;> simp)
        · exact (((((((Below.refl w.heap.size w).alloc (Nat.le_refl _) _).trans (hb.mono (by simp))).setCell (by simp) _).setCell (by simp) _).setCell (by simp) _).setCell (by simp) _)
    · by_cases hz16 : z 0 = 16
      · rw [hz16] at hl0
        by_cases hm1 : m = 1
        · subst hm1
          have e : derr 1 z = 5 ∧ dkind 1 z = 0 ∧ dfirst 1 z = 0 ∧ dlen 1 z = 0 ∧ dfeed 1 z = 0 := by simp [derr, dkind, dfirst, dlen, dfeed, hz16]
          have K := Lib.hid e
          clear hz0 hz16 e
          go_enter Try.func8, Try.ntmps8
          go_wp2
          obtain ⟨k1, k2, k3, k4, k5⟩ := K.out
          refine bodyPost_ret (v := .tuple #[.agg #[.int .i64 0, .int .u32 0, .slice none 0 0, .slice none 0 0], .int .i64 5]) (by simp [results, Try.results8, go_sem]) rfl ⟨none, 0, none, 0, by rw [k1, k2, k3, k4, k5]; rfl, by rw [k4]; exact Row.nil, by rw [k5]; exact Row.nil, (Below.refl w.heap.size w).alloc (Nat.le_refl _) _⟩
        · have hm2 : 1 < m := by omega
          have e : derr m z = 0 ∧ dkind m z = 1 ∧ dfirst m z = 0 ∧ dlen m z = 0 ∧ dfeed m z = m - 1 := by simp [derr, dkind, dfirst, dlen, dfeed, hz16, hm1, hm2, h0]
          have K := Lib.hid e
          have hmo : ((m : Int) == 1) = false := by simp; omega
          have hm2' : (1 : Int) < (m : Int) := by omega
          have hc2 : (1 : Int) < (c : Int) := by omega
          clear hz0 hz16 e
          go_enter Try.func8, Try.ntmps8
          go_wp2
          obtain ⟨k1, k2, k3, k4, k5⟩ := K.out
          refine bodyPost_ret (v := .tuple #[.agg #[.int .i64 1, .int .u32 0, .slice none 0 0, .slice (some ⟨lb, lo + 1, none⟩) (m - 1) (c - 1)], .int .i64 0]) (by simp [results, Try.results8, go_sem]) rfl ⟨none, 0, some ⟨lb, lo + 1, none⟩, c - 1, by rw [k1, k2, k3, k4, k5]; rfl, by rw [k4]; exact Row.nil, ?_, (Below.refl w.heap.size w).alloc (Nat.le_refl _) _⟩
          rw [k5]
          exact ((sub_row HL.out hlb).alloc (Nat.le_refl _) _).more (by simp)
      · have e : derr m z = 9 ∧ dkind m z = 0 ∧ dfirst m z = 0 ∧ dlen m z = 0 ∧ dfeed m z = 0 := by simp [derr, dkind, dfirst, dlen, dfeed, hz16, hz0, h0]
        have K := Lib.hid e
        obtain ⟨x, hx⟩ : ∃ x, x = z 0 := ⟨_, rfl⟩
        rw [← hx] at hl0 hz0 hz16
        have g1 : (x == 0) = false := by simpa using hz0
        have g2 : (x == 16) = false := by simpa using hz16
        clear hx e
        go_enter Try.func8, Try.ntmps8
        go_wp2
        obtain ⟨k1, k2, k3, k4, k5⟩ := K.out
        refine bodyPost_ret (v := .tuple #[.agg #[.int .i64 0, .int .u32 0, .slice none 0 0, .slice none 0 0], .int .i64 9]) (by simp [results, Try.results8, go_sem]) rfl ⟨none, 0, none, 0, by rw [k1, k2, k3, k4, k5]; rfl, by rw [k4]; exact Row.nil, by rw [k5]; exact Row.nil, (Below.refl w.heap.size w).alloc (Nat.le_refl _) _⟩
end Go.Proofs.Ytiffminhlimajaa
