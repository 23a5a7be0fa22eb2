/- law 47, XHP without what XU has. -/
import Derived.Test.YtiffminhlimajaaMK
namespace Go.Proofs.Ytiffminhlimajaa
open Go.RowKit
/-- the first r bytes as a number -/
def fu (z : Nat → Int) : Nat → Int
  | 0 => 0
  | r + 1 => 256 * fu z r + z r
theorem Try.infoBool : (Try.prog.info? 4).map (fun i => (i.zero, i.size, i.bytes)) = some (some (.bool false), 1, 1) := by kernel_rfl
theorem fu_bounds (z : Nat → Int) (m : Nat) (hz : ∀ j, j < m → 0 ≤ z j ∧ z j < 256) : ∀ r, r ≤ m → 0 ≤ fu z r ∧ fu z r < 256 ^ r
  | 0, _ => ⟨Int.le_refl _, by unfold fu; decide⟩
  | r + 1, h => by
    obtain ⟨h1, h2⟩ := fu_bounds z m hz r (by omega)
    obtain ⟨h3, h4⟩ := hz r (by omega)
    refine ⟨by unfold fu; omega, ?_⟩
    unfold fu
    rw [Int.pow_succ]; omega
/-- the bytes behind the first four -/
def pay (z : Nat → Int) (j : Nat) : Int := z (4 + j)
def nbits (m : Nat) (z : Nat → Int) : Nat := HM.last (HM.hb (pay z)) (8 * (m - 4))
def serr (m : Nat) (z : Nat → Int) : Int := if m < 4 then 5 else if 260 < m then 4 else if 2047 < nbits m z then 4 else if 4 < m ∧ z (m - 1) = 0 then 9 else 0
def RepPost (m : Nat) (z : Nat → Int) (w : World) (e : Ending) (w' : World) : Prop :=
  (serr m z ≠ 0 ∧ e = .returned (.tuple #[.agg (ctl 0 0 none 0 0 none 0 0), .int .i64 (serr m z)]) ∨
    serr m z = 0 ∧ ∃ A c, e = .returned (.tuple #[.agg (ctl 0 (fu z 4) A (nbits m z) c none 0 0), .int .i64 0]) ∧ Row w' w'.heap.size A (nbits m z) (fun j => .bool (HM.hb (pay z) j))) ∧ Below w.heap.size w w'
theorem Blk.four {w : World} {g : Nat} {t : TypeId} {a b c d : Value} (h : Blk w g t #[a, b, c, d]) :
    w.cell? ⟨g, 0, none⟩ = some a ∧ w.cell? ⟨g, 1, none⟩ = some b ∧ w.cell? ⟨g, 2, none⟩ = some c ∧ w.cell? ⟨g, 3, none⟩ = some d ∧ w.frozen? ⟨g, 0, none⟩ = false ∧ w.frozen? ⟨g, 1, none⟩ = false ∧ w.frozen? ⟨g, 2, none⟩ = false ∧ w.frozen? ⟨g, 3, none⟩ = false :=
  ⟨h.cell 0, h.cell 1, h.cell 2, h.cell 3, h.frozen 0, h.frozen 1, h.frozen 2, h.frozen 3⟩
/-- halving k times -/
theorem half_pow (x : Nat) (k : Nat) : x / 2 ^ k / 2 = x / 2 ^ (k + 1) := by rw [Nat.div_div_eq_div_mul, Nat.pow_succ]
def bitList (b : Nat → Bool) (i : Nat) : List Value := (List.range i).map (fun j => .bool (b j))
theorem bitList_succ (b : Nat → Bool) (i : Nat) : bitList b (i + 1) = bitList b i ++ [.bool (b i)] := by simp [bitList, List.range_succ]
theorem bitList_at (b : Nat → Bool) (i j : Nat) (h : j < i) : (bitList b i)[j]? = some (.bool (b j)) := by simp [bitList, h]
set_option maxRecDepth 100000 in
set_option maxHeartbeats 3200000 in
theorem report_any (m c : Nat) (A : Option Addr) (z : Nat → Int) (w : World) (hm : m ≤ maxLen) (hmc : m ≤ c) (hz : ∀ j, j < m → 0 ≤ z j ∧ z j < 256) (hr : Row w w.heap.size A m (fun j => .int .u8 (z j))) :
    Calls Try.prog 24 #[.slice A m c] w (RepPost m z w) := by
  unfold maxLen at hm
  by_cases h4 : m < 4
  · have e1 : serr m z = 5 := by unfold serr; rw [if_pos h4]
    have e3 : RepPost m z w = fun e w' => e = .returned (.tuple #[.agg (ctl 0 0 none 0 0 none 0 0), .int .i64 5]) ∧ Below w.heap.size w w' := by
      funext e w'; unfold RepPost; rw [e1]; simp
    rw [e3]
    unfold ctl
    clear e1 e3 hr hz
    go_enter Try.func24, Try.ntmps24
    go_wp2
    refine bodyPost_ret (v := .tuple #[.agg #[.int .i64 0, .int .u32 0, .slice none 0 0, .slice none 0 0], .int .i64 5]) (by simp [results, Try.results24, go_sem]) rfl ⟨rfl, ?_⟩
    exact (Below.refl w.heap.size w).alloc (Nat.le_refl _) _
  · obtain ⟨lb, lo, rfl, hlb, hlc⟩ := hr (by omega)
    have HL := Lib.hid hlc
    have HZ := Lib.hid hz
    clear hlc hr hz
    go_enter Try.func24, Try.ntmps24
    go_wp2
    obtain ⟨W1, hW1⟩ : ∃ W1, W1 = w.alloc (.cells #[.int .i64 0, .int .u32 0, .slice none 0 0, .slice none 0 0] 43) := ⟨_, rfl⟩
    have b1 : Below w.heap.size w W1 := by rw [hW1]; exact (Below.refl w.heap.size w).alloc (Nat.le_refl _) _
    have z1 : W1.heap.size = w.heap.size + 1 := by rw [hW1]; simp
    have B1 : Blk W1 w.heap.size 43 #[.int .i64 0, .int .u32 0, .slice none 0 0, .slice none 0 0] := by rw [hW1]; exact Blk.new _ _ _
    have C1 := Blk.new W1 43 #[.int .i64 0, .int .u32 0, .slice none 0 0, .slice none 0 0]
    rw [z1] at C1
    rw [← hW1]
    have HW1 := Lib.hid hW1
    clear hW1
    go_loopw [5] (fun v wr => ∃ r : Nat, r ≤ 4 ∧ v = .int .i64 r ∧ Blk wr (w.heap.size + 1) 43 #[.int .i64 0, .int .u32 (fu z r), .slice none 0 0, .slice none 0 0] ∧ Below (w.heap.size + 1) W1 wr) (fun v _ => 4 - (intOf v).toNat)
    case atStart => exact ⟨0, Nat.zero_le _, rfl, C1, ((Below.refl (w.heap.size + 1) W1).alloc (by omega) _)⟩
    case round =>
      obtain ⟨r, hr4, rfl, hC, hW⟩ := hrel
      by_cases hlt : r < 4
      · have hci : wr.cell? ⟨lb, lo + r, none⟩ = some (.int .u8 (z r)) := (hW.cell (p := ⟨lb, lo + r, none⟩) (by simp; omega)).trans ((b1.cell (p := ⟨lb, lo + r, none⟩) hlb).trans (HL.out r (by omega)))
        have hc1 : wr.cell? ⟨w.heap.size + 1, 1, none⟩ = some (.int .u32 (fu z r)) := hC.cell 1
        have hf1 := hC.frozen 1
        have hrm : (r : Int) < (m : Int) := by omega
        obtain ⟨f1, f2⟩ := fu_bounds z m HZ.out r (by omega)
        obtain ⟨x1, x2⟩ := HZ.out r (by omega)
        have f3 : fu z r < 16777216 := by
          have : (256 : Int) ^ r ≤ 256 ^ 3 := by
            have hh : r = 0 ∨ r = 1 ∨ r = 2 ∨ r = 3 := by omega
            rcases hh with rfl | rfl | rfl | rfl <;> decide
          omega
        clear f2
        go_wp2
        go_region
        all_goals go_wp2
        go_roundw
        case rel =>
          refine ⟨r + 1, by omega, by go_num, ?_, ?_⟩
          · exact (hC.set_ 1 (.int .u32 (256 * fu z r + z r))).drew
          · exact (hW.setCell (by simp) _).drew
        case measure => simp [intOf]; omega
      · obtain rfl : r = 4 := by omega
        obtain ⟨W2, hW2⟩ : ∃ W2, W2 = wr := ⟨_, rfl⟩
        subst hW2
        by_cases hbig : 260 < m
        · have e1 : serr m z = 4 := by unfold serr; rw [if_neg h4, if_pos hbig]
          have hc5 : (4 : Int) < (c : Int) := by omega
          have hbi : (260 : Int) < (m : Int) := by omega
          obtain ⟨d0, d1, d2, d3, f0, f1, f2, f3⟩ := (B1.below hW (by omega)).four
          go_wp2
          have R := (((((B1.below hW (by omega)).set_ 0 (.int .i64 0)).set_ 1 (.int .u32 0)).set_ 2 (.slice none 0 0)).set_ 3 (.slice none 0 0))
          obtain ⟨y0, y1, y2, y3, _, _, _, _⟩ := Blk.four (a := .int .i64 0) (b := .int .u32 0) (c := .slice none 0 0) (d := .slice none 0 0) R
          refine bodyPost_ret (v := .tuple #[.agg #[.int .i64 0, .int .u32 0, .slice none 0 0, .slice none 0 0], .int .i64 4]) (by simp [results, Try.results24, go_sem, y0, y1, y2, y3]) rfl ⟨.inl ⟨by rw [e1]; decide, by rw [e1]; rfl⟩, ?_⟩
          exact ((((b1.trans (hW.mono (by omega))).setCell (by simp) _).setCell (by simp) _).setCell (by simp) _).setCell (by simp) _
        · by_cases hc4 : c = 4
          · subst hc4
            obtain rfl : m = 4 := by omega
            obtain ⟨c0, c1, c2, c3, g0, g1, g2, g3⟩ := hC.four
            obtain ⟨d0, d1, d2, d3, e0, e1, e2, e3⟩ := (B1.below hW (by omega)).four
            go_wp2
            refine wp_loop_rounds 1 ?_
            rw [rounds_succ]
            go_wp2
            have R := ((((((B1.below hW (by omega)).far (p := ⟨w.heap.size + 1, 2, none⟩) (by simp) (.slice none 0 0)).set_ 0 (.int .i64 0)).set_ 1 (.int .u32 (fu z 4))).set_ 2 (.slice none 0 0)).set_ 3 (.slice none 0 0))
            obtain ⟨y0, y1, y2, y3, _, _, _, _⟩ := Blk.four (a := .int .i64 0) (b := .int .u32 (fu z 4)) (c := .slice none 0 0) (d := .slice none 0 0) R
            have e1 : serr 4 z = 0 := by simp [serr, nbits, HM.last]
            have e2 : nbits 4 z = 0 := by simp [nbits, HM.last]
            refine bodyPost_ret (v := .tuple #[.agg #[.int .i64 0, .int .u32 (fu z 4), .slice none 0 0, .slice none 0 0], .int .i64 0]) (by simp [results, Try.results24, go_sem, y0, y1, y2, y3]) rfl ⟨.inr ⟨e1, none, 0, by rw [e2]; rfl, by rw [e2]; exact Row.nil⟩, ?_⟩
            exact (((((b1.trans (hW.mono (by omega))).setCell (by simp) _).setCell (by simp) _).setCell (by simp) _).setCell (by simp) _).setCell (by simp) _
          · have hc5 : (4 : Int) < (c : Int) := by omega
            obtain ⟨b, hb⟩ : ∃ b, b = HM.hb (pay z) := ⟨_, rfl⟩
            have HBt := Lib.hid hb
            clear hb
            obtain ⟨i0, hi0, hz0, hz1, hz2⟩ := info_parts Try.infoBool
            obtain ⟨q, hq⟩ : ∃ q, q = m - 4 := ⟨_, rfl⟩
            obtain ⟨N8, hN8⟩ : ∃ N8, N8 = 8 * q := ⟨_, rfl⟩
            have hN8i : (8 : Int) * (q : Int) = (N8 : Int) := by omega
            have HQ := Lib.hid hq
            have HN := Lib.hid hN8
            go_wp2
            rw [← hq]
            clear hq hN8
            have hq256 : q ≤ 256 := by have := HQ.out; omega
            go_loopw [6, 7, 8] (fun v6 v7 v8 wr => ∃ i : Nat, i ≤ N8 ∧ v8 = .int .i64 i ∧ v6 = .int .i64 ((HM.last b i : Nat) : Int) ∧ wr.ownsRow W2.heap.size 4 1 v7 i (bitList b i) ∧ Below W2.heap.size W2 wr) (fun _ _ v _ => N8 - (intOf v).toNat)
            case atStart => exact ⟨0, Nat.zero_le _, rfl, rfl, World.ownsRow_nil _ _ _ _, Below.refl _ _⟩
            case round =>
              obtain ⟨i, hi, rfl, rfl, hown, hW3⟩ := hrel
              by_cases hlt3 : i < N8
              · have hid : i / 8 < q := by have := HN.out; omega
                have hci : wr.cell? ⟨lb, lo + 4 + i / 8, none⟩ = some (.int .u8 (pay z (i / 8))) := by
                  have := (hW3.cell (p := ⟨lb, lo + (4 + i / 8), none⟩) (by have := hW.size; simp; omega)).trans ((hW.cell (p := ⟨lb, lo + (4 + i / 8), none⟩) (by simp; omega)).trans ((b1.cell (p := ⟨lb, lo + (4 + i / 8), none⟩) hlb).trans (HL.out (4 + i / 8) (by have := HQ.out; omega))))
                  rw [Nat.add_assoc]; exact this
                obtain ⟨x, hx⟩ : ∃ x : Nat, pay z (i / 8) = (x : Int) := ⟨(pay z (i / 8)).toNat, by have := HZ.out (4 + i / 8) (by have := HQ.out; omega); unfold pay; omega⟩
                rw [hx] at hci
                have hx256 : x < 256 := by have := HZ.out (4 + i / 8) (by have := HQ.out; omega); unfold pay at hx; omega
                have hbi : b i = (x / 2 ^ (7 - i % 8) % 2 == 1) := by rw [HBt.out]; unfold HM.hb; rw [hx, Int.toNat_natCast]
                have HBI := Lib.hid hbi
                clear hbi hx
                obtain ⟨W3, hW3e⟩ : ∃ W3, W3 = wr := ⟨_, rfl⟩
                subst hW3e
                go_wp2
                go_loopw [9, 10] (fun v9 v10 wr => ∃ k : Nat, k ≤ 7 - i % 8 ∧ v10 = .int .i64 k ∧ v9 = .int .i64 ((x / 2 ^ k : Nat) : Int) ∧ wr = W3) (fun _ v _ => 7 - (intOf v).toNat)
                case atStart => exact ⟨0, Nat.zero_le _, rfl, by simp, rfl⟩
                case round =>
                  obtain ⟨k, hk, rfl, rfl, rfl⟩ := hrel
                  obtain ⟨y, hy⟩ : ∃ y, y = x / 2 ^ k := ⟨_, rfl⟩
                  have hy256 : y < 256 := by rw [hy]; exact Nat.lt_of_le_of_lt (Nat.div_le_self _ _) hx256
                  have HY := Lib.hid hy
                  rw [← hy]
                  clear hy
                  by_cases hlt4 : k < 7 - i % 8
                  · have g4 : (k : Int) < 7 - (i : Int) % 8 := by omega
                    go_wp2
                    go_roundw
                    case rel => exact ⟨k + 1, by omega, by go_num, by rw [← half_pow, ← HY.out]; go_num, trivial⟩
                    case measure => simp [intOf]; omega
                  · obtain rfl : k = 7 - i % 8 := by omega
                    have hbi2 : b i = (y % 2 == 1) := by rw [HBI.out, HY.out]
                    have HB2 := Lib.hid hbi2
                    cases hbi : b i with
                    | false =>
                      have e5 : (((y : Nat) : Int) % 2 == 1) = false := by rw [hbi] at hbi2; have := hbi2.symm; simp at this ⊢; omega
                      have HB3 := Lib.hid hbi
                      clear hbi hbi2
                      go_wp2_with (at_builtin; refine wpList_append_one _ rfl _ _ 41 rfl W2.heap.size 4 i0 (.bool false) 1 Try.underlying41 hi0 hz0 hz1 hz2 rfl _ _ _ rfl hown _ rfl rfl (by unfold maxLen; omega) (by omega) hW3.size ?_; intro v' w2 hown' hg2)
                      go_roundw
                      case rel => first | exact ⟨i + 1, by omega, by go_num, by rw [last_skip b i HB3.out], by rw [bitList_succ, HB3.out]; exact hown', hW3.trans hg2⟩ | ((repeat apply Exists.intro); exact ⟨⟨i + 1, by omega, by go_num, by rw [last_skip b i HB3.out], by rw [bitList_succ, HB3.out]; exact hown', hW3.trans hg2⟩, rfl⟩)
                      case measure => simp [intOf]; omega
                    | true =>
                      have e5 : (((y : Nat) : Int) % 2 == 1) = true := by rw [hbi] at hbi2; have := hbi2.symm; simp at this ⊢; omega
                      have HB3 := Lib.hid hbi
                      clear hbi hbi2
                      go_wp2_with (at_builtin; refine wpList_append_one _ rfl _ _ 41 rfl W2.heap.size 4 i0 (.bool false) 1 Try.underlying41 hi0 hz0 hz1 hz2 rfl _ _ _ rfl hown _ rfl rfl (by unfold maxLen; omega) (by omega) hW3.size ?_; intro v' w2 hown' hg2)
                      go_roundw
                      case rel => first | exact ⟨i + 1, by omega, by go_num, by rw [last_bounds b i HB3.out]; go_num, by rw [bitList_succ, HB3.out]; exact hown', hW3.trans hg2⟩ | ((repeat apply Exists.intro); exact ⟨⟨i + 1, by omega, by go_num, by rw [last_bounds b i HB3.out]; go_num, by rw [bitList_succ, HB3.out]; exact hown', hW3.trans hg2⟩, rfl⟩)
                      case measure => simp [intOf]; omega
              · obtain rfl : i = N8 := by omega
                obtain ⟨L, hL⟩ : ∃ L, L = HM.last b i := ⟨_, rfl⟩
                have hLn : L = nbits m z := by rw [hL, HBt.out]; unfold nbits; have h1 := HN.out; have h2 := HQ.out; rw [h1, h2]
                have HLn := Lib.hid hLn
                have hLe : L ≤ i := by rw [hL]; exact HM.last_le b i
                rw [← hL]
                clear hL hLn
                have z2 : w.heap.size + 1 < W2.heap.size := hC.lt
                obtain ⟨c0, c1, c2, c3, g0, g1, g2, g3⟩ := (hC.below hW3 (by omega)).four
                obtain ⟨d0, d1, d2, d3, f0, f1, f2, f3⟩ := ((B1.below hW (by omega)).below hW3 (by omega)).four
                have hWW : Below w.heap.size w wr := (b1.trans (hW.mono (by omega))).trans (hW3.mono (by omega))
                have RB := (B1.below hW (by omega)).below hW3 (by omega)
                have m4 : (4 : Int) ≤ (m : Int) := by omega
                have hLc : (L : Int) ≤ (i : Int) := by omega
                by_cases hL2 : 2047 < L
                · have e1 : serr m z = 4 := by unfold serr; rw [if_neg h4, if_neg hbig, ← HLn.out, if_pos hL2]
                  go_wp2
                  have R := ((((RB).set_ 0 (.int .i64 0)).set_ 1 (.int .u32 0)).set_ 2 (.slice none 0 0)).set_ 3 (.slice none 0 0)
                  obtain ⟨y0, y1, y2, y3, _, _, _, _⟩ := Blk.four (a := .int .i64 0) (b := .int .u32 0) (c := .slice none 0 0) (d := .slice none 0 0) R
                  refine bodyPost_ret (v := .tuple #[.agg #[.int .i64 0, .int .u32 0, .slice none 0 0, .slice none 0 0], .int .i64 4]) (by simp [results, Try.results24, go_sem, y0, y1, y2, y3]) rfl ⟨.inl ⟨by rw [e1]; decide, by rw [e1]; rfl⟩, ?_⟩
                  exact (((hWW.setCell (by simp) _).setCell (by simp) _).setCell (by simp) _).setCell (by simp) _
                · by_cases hq0 : q = 0
                  · have hm4 : ¬ (4 < m ∧ z (m - 1) = 0) := by have := HQ.out; omega
                    have e1 : serr m z = 0 := by unfold serr; rw [if_neg h4, if_neg hbig, ← HLn.out, if_neg hL2, if_neg hm4]
                    have i0' : i = 0 := by have := HN.out; omega
                    have L0 : L = 0 := by omega
                    have HLL := Lib.hid HLn.out
                    clear HLn
                    subst L0 i0' hq0
                    have hnil : ∃ A c, u7 = .slice A 0 c ∧ 0 ≤ c ∧ c ≤ maxLen := by
                      rcases hown.2 with ⟨rfl, _⟩ | ⟨g, cap, cur, rfl, _, _, h1, h2, _⟩
                      · exact ⟨_, _, rfl, Nat.le_refl _, by decide⟩
                      · exact ⟨_, _, rfl, by omega, h2⟩
                    obtain ⟨A', c', rfl, hc1, hc2⟩ := hnil
                    unfold maxLen at hc2
                    go_wp2
                    have R := ((((RB.far (p := ⟨w.heap.size + 1, 2, none⟩) (by simp) (.slice A' 0 c')).set_ 0 (.int .i64 0)).set_ 1 (.int .u32 (fu z 4))).set_ 2 (.slice A' 0 c')).set_ 3 (.slice none 0 0)
                    obtain ⟨y0, y1, y2, y3, _, _, _, _⟩ := Blk.four (a := .int .i64 0) (b := .int .u32 (fu z 4)) (c := .slice A' 0 c') (d := .slice none 0 0) R
                    refine bodyPost_ret (v := .tuple #[.agg #[.int .i64 0, .int .u32 (fu z 4), .slice A' 0 c', .slice none 0 0], .int .i64 0]) (by simp [results, Try.results24, go_sem, y0, y1, y2, y3]) rfl ⟨.inr ⟨e1, A', c', by rw [← HLL.out]; rfl, by rw [← HLL.out]; exact Row.nil⟩, ?_⟩
                    exact ((((hWW.setCell (by simp) _).setCell (by simp) _).setCell (by simp) _).setCell (by simp) _).setCell (by simp) _
                  · have hq1 : 0 < q := by omega
                    have hm4 : 4 < m := by have := HQ.out; omega
                    have hcl : wr.cell? ⟨lb, lo + 4 + (q - 1), none⟩ = some (.int .u8 (z (m - 1))) := by
                      have := (hW3.cell (p := ⟨lb, lo + (m - 1), none⟩) (by have := hW.size; simp; omega)).trans ((hW.cell (p := ⟨lb, lo + (m - 1), none⟩) (by simp; omega)).trans ((b1.cell (p := ⟨lb, lo + (m - 1), none⟩) hlb).trans (HL.out (m - 1) (by omega))))
                      have e : lo + 4 + (q - 1) = lo + (m - 1) := by have := HQ.out; omega
                      rw [e]; exact this
                    by_cases hz0 : z (m - 1) = 0
                    · have e1 : serr m z = 9 := by unfold serr; rw [if_neg h4, if_neg hbig, ← HLn.out, if_neg hL2, if_pos ⟨hm4, hz0⟩]
                      rw [hz0] at hcl
                      clear hz0
                      go_wp2
                      have R := ((((RB).set_ 0 (.int .i64 0)).set_ 1 (.int .u32 0)).set_ 2 (.slice none 0 0)).set_ 3 (.slice none 0 0)
                      obtain ⟨y0, y1, y2, y3, _, _, _, _⟩ := Blk.four (a := .int .i64 0) (b := .int .u32 0) (c := .slice none 0 0) (d := .slice none 0 0) R
                      refine bodyPost_ret (v := .tuple #[.agg #[.int .i64 0, .int .u32 0, .slice none 0 0, .slice none 0 0], .int .i64 9]) (by simp [results, Try.results24, go_sem, y0, y1, y2, y3]) rfl ⟨.inl ⟨by rw [e1]; decide, by rw [e1]; rfl⟩, ?_⟩
                      exact (((hWW.setCell (by simp) _).setCell (by simp) _).setCell (by simp) _).setCell (by simp) _
                    · have e1 : serr m z = 0 := by unfold serr; rw [if_neg h4, if_neg hbig, ← HLn.out, if_neg hL2, if_neg (by intro h; exact hz0 h.2)]
                      obtain ⟨zl, hzl⟩ : ∃ zl, zl = z (m - 1) := ⟨_, rfl⟩
                      rw [← hzl] at hcl hz0
                      clear hzl
                      have hz1 : (zl == 0) = false := by simpa using hz0
                      have hi8 : 0 < i := by have := HN.out; omega
                      obtain ⟨g, cap, rfl, hg, hgl, hcap⟩ := own_room hown hi8
                      have hLcap : (L : Int) ≤ (cap : Int) := by omega
                      go_wp2
                      have R := ((((RB.far (p := ⟨w.heap.size + 1, 2, none⟩) (by simp) (.slice (some ⟨g, 0, none⟩) L cap)).set_ 0 (.int .i64 0)).set_ 1 (.int .u32 (fu z 4))).set_ 2 (.slice (some ⟨g, 0, none⟩) L cap)).set_ 3 (.slice none 0 0)
                      obtain ⟨y0, y1, y2, y3, _, _, _, _⟩ := Blk.four (a := .int .i64 0) (b := .int .u32 (fu z 4)) (c := .slice (some ⟨g, 0, none⟩) L cap) (d := .slice none 0 0) R
                      have RR : Row wr wr.heap.size (some ⟨g, 0, none⟩) L (fun j => .bool (HM.hb (pay z) j)) := (own_row hown (fun j hj => by rw [bitList_at b i j hj, HBt.out]) hgl).take hLe
                      refine bodyPost_ret (v := .tuple #[.agg #[.int .i64 0, .int .u32 (fu z 4), .slice (some ⟨g, 0, none⟩) L cap, .slice none 0 0], .int .i64 0]) (by simp [results, Try.results24, go_sem, y0, y1, y2, y3]) rfl ⟨.inr ⟨e1, some ⟨g, 0, none⟩, cap, by rw [← HLn.out]; rfl, ?_⟩, ?_⟩
                      · rw [← HLn.out]
                        have q1 := ((((RR.far (p := ⟨w.heap.size + 1, 2, none⟩) (by simp; omega) (.slice (some ⟨g, 0, none⟩) L cap)).far (p := ⟨w.heap.size, 0, none⟩) (by simp; omega) (.int .i64 0)).far (p := ⟨w.heap.size, 1, none⟩) (by simp; omega) (.int .u32 (fu z 4))).far (p := ⟨w.heap.size, 2, none⟩) (by simp; omega) (.slice (some ⟨g, 0, none⟩) L cap)).far (p := ⟨w.heap.size, 3, none⟩) (by simp; omega) (.slice none 0 0)
                        exact q1
                      · exact ((((hWW.setCell (by simp) _).setCell (by simp) _).setCell (by simp) _).setCell (by simp) _).setCell (by simp) _
end Go.Proofs.Ytiffminhlimajaa
