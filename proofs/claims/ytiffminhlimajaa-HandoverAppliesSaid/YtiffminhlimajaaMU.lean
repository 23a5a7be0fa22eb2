/- law 47, XHU without what XU has. -/
import Derived.Test.YtiffminhlimajaaMT
import Derived.Maps.OwnSet
namespace Go.Proofs.Ytiffminhlimajaa
open Go.RowKit
def kmap1 : Array MapEntry := #[{ key := .int .u8 0, val := .func (.func 28) #[] #[], born := 0 }]
def kmap2 : Array MapEntry := #[{ key := .int .u8 0, val := .func (.func 28) #[] #[], born := 0 }, { key := .int .u8 16, val := .func (.func 29) #[] #[], born := 1 }]
theorem run_kput (W : World) (r : Nat) (es : Array MapEntry) (c : Nat) (x : Int) (v : Value) (hb : W.heap[r]? = some (.map es c)) (hf : Instr.findNow (.int .u8) (.int .u8 x) es.toList 0 = some none) :
    (Instr.mapUpdate 79 (.map (some r)) (.int .u8 x) v).run Try.prog W = .ok () { W with heap := W.heap.setIfInBounds r (.map (es.push { key := .int .u8 x, val := v, born := c }) (c + 1)) } := by
  have hc : ∀ e : Bool, (Instr.checkKey e 10000 5 (.int .u8 x)).run Try.prog W = .ok () W := fun e => MapKept.run_checkKey (k := .int .u8 x) Try.underlying5 (by simp [MapKept.IsKey]) e 9999
  simp [Instr.mapUpdate, run_underlying Try.underlying79, MapKept.run_getObj_map hb, hc, MapKept.run_findKey Try.underlying5 hf, MapKept.run_setObj_map _ hb, Result.andThen]
theorem run_kget (W : World) (r : Nat) (es : Array MapEntry) (c : Nat) (x : Int) (a : Option (Nat × Value)) (hb : W.heap[r]? = some (.map es c)) (hf : Instr.findNow (.int .u8) (.int .u8 x) es.toList 0 = some a) :
    (Instr.lookup 79 (.map (some r)) (.int .u8 x) true).run Try.prog W = .ok (match a with | some (_, v) => .tuple #[v, .bool true] | none => .tuple #[.nilFunc, .bool false]) W := by
  have hc : ∀ e : Bool, (Instr.checkKey e 10000 5 (.int .u8 x)).run Try.prog W = .ok () W := fun e => MapKept.run_checkKey (k := .int .u8 x) Try.underlying5 (by simp [MapKept.IsKey]) e 9999
  have hz : ∀ W, (zeroValue 53).run Try.prog W = .ok .nilFunc W := fun W => by kernel_rfl
  rcases a with _ | ⟨i, v⟩ <;> simp [Instr.lookup, run_underlying Try.underlying79, MapKept.run_getObj_map hb, hc, MapKept.run_findKey Try.underlying5 hf, hz, Result.andThen]
theorem kinds_made (W : World) : ∃ X1 X2, (Instr.mapUpdate 79 (.map (some W.heap.size)) (.int .u8 0) (.func (.func 28) #[] #[])).run Try.prog (W.alloc (.map #[] 0)) = .ok () X1 ∧
    (Instr.mapUpdate 79 (.map (some W.heap.size)) (.int .u8 16) (.func (.func 29) #[] #[])).run Try.prog X1 = .ok () X2 ∧ Below W.heap.size W X2 ∧ X2.heap[W.heap.size]? = some (.map kmap2 2) := by
  have h1 := run_kput (W.alloc (.map #[] 0)) W.heap.size #[] 0 0 (.func (.func 28) #[] #[]) (World.alloc_heap_new W _) rfl
  have h2 := run_kput ((W.alloc (.map #[] 0)).putObj W.heap.size (.map kmap1 1)) W.heap.size kmap1 1 16 (.func (.func 29) #[] #[]) (World.putObj_heap_same (by simp)) rfl
  refine ⟨_, _, h1, h2, ?_, World.putObj_heap_same (w := (W.alloc (.map #[] 0)).putObj W.heap.size (.map kmap1 1)) (o := .map kmap2 2) (by simp)⟩
  exact (((Below.refl _ W).alloc (Nat.le_refl _) _).grown (grownBy_putObj' _ W.heap.size (.map kmap1 1)) (by simp) (fun k e => by cases e; exact Nat.le_refl _)).grown (grownBy_putObj' _ W.heap.size (.map kmap2 2)) (by simp) (fun k e => by cases e; exact Nat.le_refl _)
theorem slice1 (lb lo m c : Nat) (h1 : 1 ≤ m) (hmc : m ≤ c) : ∃ lo1, (∀ w, (Instr.slice 27 (.slice (some ⟨lb, lo, none⟩) m c) (some (.int .i64 1)) none none).run Try.prog w = .ok (.slice (some ⟨lb, lo1, none⟩) (m - 1) (c - 1)) w) ∧ (1 < m → lo1 = lo + 1) := by
  have hm0 : (1 : Int) ≤ (m : Int) := by omega
  by_cases hc : c = 1
  · subst hc
    exact ⟨lo, fun w => by simp [go_sem, hm0], fun h => by omega⟩
  · exact ⟨lo + 1, fun w => by simp [go_sem, hm0, hc], fun _ => rfl⟩
set_option maxRecDepth 100000 in
set_option maxHeartbeats 1600000 in
theorem decode_any (m c : Nat) (A : Option Addr) (z : Nat → Int) (w : World) (hm : m ≤ 140737488355328) (hmc : m ≤ c) (hz : ∀ j, j < m → 0 ≤ z j ∧ z j < 256) (hr : Row w w.heap.size A m (fun j => .int .u8 (z j))) :
    Calls Try.prog 12 #[.slice A m c] w (DecPost m z w) := by
  have HZ := Lib.hid hz
  by_cases h0 : m = 0
  · have e : derr m z = 5 ∧ dkind m z = 0 ∧ dfirst m z = 0 ∧ dlen m z = 0 ∧ dfeed m z = 0 := by subst h0; simp [derr, dkind, dfirst, dlen, dfeed]
    have K := Lib.hid e
    clear e hr hz
    subst h0
    go_enter Try.func12, Try.ntmps12
    go_wp2
    obtain ⟨k1, k2, k3, k4, k5⟩ := K.out
    refine bodyPost_ret (v := .tuple #[.agg #[.int .i64 0, .int .u32 0, .slice none 0 0, .slice none 0 0], .int .i64 5]) (by simp [results, Try.results12, go_sem]) rfl ⟨none, 0, none, 0, by rw [k1, k2, k3, k4, k5]; rfl, by rw [k4]; exact Row.nil, by rw [k5]; exact Row.nil, (Below.refl w.heap.size w).alloc (Nat.le_refl _) _⟩
  · obtain ⟨lb, lo, rfl, hlb, hlc⟩ := hr (by omega)
    have hl0 : w.cell? ⟨lb, lo, none⟩ = some (.int .u8 (z 0)) := hlc 0 (by omega)
    have HL := Lib.hid hlc
    have hm0 : (0 : Int) < (m : Int) := by omega
    have hmn : ((m : Int) == 0) = false := by simp; omega
    clear hlc hz hr
    have hmm := @run_makeMap Try.prog
    obtain ⟨lo1, hsl, hlo⟩ := slice1 lb lo m c (by omega) hmc
    obtain ⟨X1, X2, hu1, hu2, hbX, hmap⟩ := kinds_made (w.alloc (.cells #[.int .i64 0, .int .u32 0, .slice none 0 0, .slice none 0 0] 43))
    rw [World.size_alloc] at hu1 hu2 hbX hmap
    have hlX : X2.cell? ⟨lb, lo, none⟩ = some (.int .u8 (z 0)) := (hbX.cell (p := ⟨lb, lo, none⟩) (by simp; omega)).trans ((World.cell?_alloc_lt w _ ⟨lb, lo, none⟩ hlb).trans hl0)
    have hRd : Row X2 X2.heap.size (some ⟨lb, lo1, none⟩) (m - 1) (fun j => .int .u8 (dz z j)) := fun hq => by
      refine ⟨lb, lo1, rfl, by have := hbX.size; simp at this; omega, fun j hj => ?_⟩
      rw [hlo (by omega), Nat.add_assoc]
      exact (hbX.cell (p := ⟨lb, lo + (1 + j), none⟩) (by simp; omega)).trans ((World.cell?_alloc_lt w _ ⟨lb, lo + (1 + j), none⟩ hlb).trans (HL.out (1 + j) (by omega)))
    have HX := Lib.hid (And.intro hbX hRd)
    clear hbX hRd hlo hl0
    have hszX : w.heap.size + 1 ≤ X2.heap.size := by have := HX.out.1.size; simp at this; omega
    by_cases hz0 : z 0 = 0
    · have e : derr m z = serr (m - 1) (dz z) ∧ dkind m z = 0 ∧ dfirst m z = sfirst (m - 1) (dz z) ∧ dlen m z = slen (m - 1) (dz z) ∧ dfeed m z = 0 := by
        simp [derr, dkind, dfirst, dlen, dfeed, h0, hz0, Nat.pos_of_ne_zero h0]
      have K := Lib.hid e
      rw [hz0] at hlX
      have hget := run_kget X2 (w.heap.size + 1) kmap2 2 0 (some (0, .func (.func 28) #[] #[])) hmap rfl
      simp only at hget
      have HSt := Lib.hid (hstatus_any (m - 1) (c - 1) (some ⟨lb, lo1, none⟩) (dz z) X2 (by unfold maxLen; omega) (by omega) (fun j hj => HZ.out (1 + j) (by omega)) HX.out.2)
      clear hz0 e hmap
      go_enter Try.func12, Try.ntmps12
      go_wp2_with (go_at_call 28; refine (HSt.out).mono ?_; rintro e w1 ⟨A1, c1, rfl, hR, hb⟩; unfold ctl; have R0 : Blk w1 w.heap.size 43 #[.int .i64 0, .int .u32 0, .slice none 0 0, .slice none 0 0] := ((Blk.new _ _ _).below HX.out.1 (by simp)).below hb (by omega); obtain ⟨c0, c1', c2, c3, f0, f1, f2, f3⟩ := R0.four; have R := Lib.hid R0; clear R0)
      obtain ⟨k1, k2, k3, k4, k5⟩ := K.out
      obtain ⟨y0, y1, y2, y3, _, _, _, _⟩ := Blk.four (a := .int .i64 0) (b := .int .u32 (sfirst (m - 1) (dz z))) (c := .slice A1 (slen (m - 1) (dz z)) c1) (d := .slice none 0 0) ((((R.out.set_ 0 (.int .i64 0)).set_ 1 (.int .u32 (sfirst (m - 1) (dz z)))).set_ 2 (.slice A1 (slen (m - 1) (dz z)) c1)).set_ 3 (.slice none 0 0))
      refine bodyPost_ret (v := .tuple #[.agg #[.int .i64 0, .int .u32 (sfirst (m - 1) (dz z)), .slice A1 (slen (m - 1) (dz z)) c1, .slice none 0 0], .int .i64 (serr (m - 1) (dz z))]) (by simp [results, Try.results12, go_sem, y0, y1, y2, y3]) rfl ⟨A1, c1, none, 0, by rw [k1, k2, k3, k4, k5]; rfl, ?_, by rw [k5]; exact Row.nil, ?_⟩
      · rw [k4]
        exact hR.four_stores R.out (by intro u j hu; simp at hu; rcases hu with rfl | rfl | rfl | rfl | rfl | rfl | rfl <;> simp)
      · exact ((((((((Below.refl w.heap.size w).alloc (Nat.le_refl _) _).trans (HX.out.1.mono (by omega))).trans (hb.mono (by omega))).setCell (Nat.le_refl _) _).setCell (Nat.le_refl _) _).setCell (Nat.le_refl _) _).setCell (Nat.le_refl _) _)
    · by_cases hz16 : z 0 = 16
      · rw [hz16] at hlX
        have e : derr m z = (if m - 1 = 0 then 5 else 0) ∧ dkind m z = (if m - 1 = 0 then 0 else 1) ∧ dfirst m z = 0 ∧ dlen m z = 0 ∧ dfeed m z = m - 1 := by
          by_cases hm1 : m = 1
          · subst hm1; simp [derr, dkind, dfirst, dlen, dfeed, hz16]
          · have : 1 < m := by omega
            have h2 : ¬ m - 1 = 0 := by omega
            simp [derr, dkind, dfirst, dlen, dfeed, hz16, hm1, h0, this, h2]
        have K := Lib.hid e
        have hget := run_kget X2 (w.heap.size + 1) kmap2 2 16 (some (1, .func (.func 29) #[] #[])) hmap rfl
        simp only at hget
        have HSt := Lib.hid (feedback_any (some ⟨lb, lo1, none⟩) (m - 1) (c - 1) (dz z) X2 (by omega) HX.out.2)
        clear hz0 hz16 e hmap
        obtain ⟨kd, hkd⟩ : ∃ kd : Int, kd = (if m - 1 = 0 then 0 else 1) := ⟨_, rfl⟩
        obtain ⟨er, her⟩ : ∃ er : Int, er = (if m - 1 = 0 then 5 else 0) := ⟨_, rfl⟩
        unfold FeedPost at HSt
        rw [← hkd, ← her] at HSt K
        clear hkd her
        go_enter Try.func12, Try.ntmps12
        go_wp2_with (go_at_call 29; refine (HSt.out).mono ?_; rintro e w1 ⟨A1, c1, rfl, hR, hb⟩; have R0 : Blk w1 w.heap.size 43 #[.int .i64 0, .int .u32 0, .slice none 0 0, .slice none 0 0] := ((Blk.new _ _ _).below HX.out.1 (by simp)).below hb (by omega); obtain ⟨c0, c1', c2, c3, f0, f1, f2, f3⟩ := R0.four; have R := Lib.hid R0; clear R0)
        obtain ⟨k1, k2, k3, k4, k5⟩ := K.out
        obtain ⟨y0, y1, y2, y3, _, _, _, _⟩ := Blk.four (a := .int .i64 kd) (b := .int .u32 0) (c := .slice none 0 0) (d := .slice A1 (m - 1) c1) ((((R.out.set_ 0 (.int .i64 kd)).set_ 1 (.int .u32 0)).set_ 2 (.slice none 0 0)).set_ 3 (.slice A1 (m - 1) c1))
        refine bodyPost_ret (v := .tuple #[.agg #[.int .i64 kd, .int .u32 0, .slice none 0 0, .slice A1 (m - 1) c1], .int .i64 er]) (by simp [results, Try.results12, go_sem, y0, y1, y2, y3]) rfl ⟨none, 0, A1, c1, by rw [k1, k2, k3, k4, k5]; rfl, by rw [k4]; exact Row.nil, ?_, ?_⟩
        · rw [k5]
          exact hR.four_stores R.out (by intro u j hu; simp at hu; rcases hu with rfl | rfl | rfl | rfl | rfl | rfl | rfl | rfl <;> simp)
        · exact ((((((((Below.refl w.heap.size w).alloc (Nat.le_refl _) _).trans (HX.out.1.mono (by omega))).trans (hb.mono (by omega))).setCell (Nat.le_refl _) _).setCell (Nat.le_refl _) _).setCell (Nat.le_refl _) _).setCell (Nat.le_refl _) _)
      · have e : derr m z = 9 ∧ dkind m z = 0 ∧ dfirst m z = 0 ∧ dlen m z = 0 ∧ dfeed m z = 0 := by simp [derr, dkind, dfirst, dlen, dfeed, hz16, hz0, h0]
        have K := Lib.hid e
        obtain ⟨x, hx⟩ : ∃ x, x = z 0 := ⟨_, rfl⟩
        rw [← hx] at hlX hz0 hz16
        have g1 : (x == 0) = false := by simpa using hz0
        have g2 : (x == 16) = false := by simpa using hz16
        have hget := run_kget X2 (w.heap.size + 1) kmap2 2 x none hmap (by simp [kmap2, Instr.findNow, Instr.sameNow, g1, g2])
        simp only at hget
        have R0 : Blk X2 w.heap.size 43 #[.int .i64 0, .int .u32 0, .slice none 0 0, .slice none 0 0] := ((Blk.new _ _ _).below HX.out.1 (by simp))
        obtain ⟨c0, c1', c2, c3, f0, f1, f2, f3⟩ := R0.four
        have R := Lib.hid R0
        clear hx e R0 hmap
        go_enter Try.func12, Try.ntmps12
        go_wp2
        obtain ⟨k1, k2, k3, k4, k5⟩ := K.out
        obtain ⟨y0, y1, y2, y3, _, _, _, _⟩ := Blk.four (a := .int .i64 0) (b := .int .u32 0) (c := .slice none 0 0) (d := .slice none 0 0) ((((R.out.set_ 0 (.int .i64 0)).set_ 1 (.int .u32 0)).set_ 2 (.slice none 0 0)).set_ 3 (.slice none 0 0))
        refine bodyPost_ret (v := .tuple #[.agg #[.int .i64 0, .int .u32 0, .slice none 0 0, .slice none 0 0], .int .i64 9]) (by simp [results, Try.results12, go_sem, y0, y1, y2, y3]) rfl ⟨none, 0, none, 0, by rw [k1, k2, k3, k4, k5]; rfl, by rw [k4]; exact Row.nil, by rw [k5]; exact Row.nil, ?_⟩
        exact (((((((Below.refl w.heap.size w).alloc (Nat.le_refl _) _).trans (HX.out.1.mono (by omega))).setCell (Nat.le_refl _) _).setCell (Nat.le_refl _) _).setCell (Nat.le_refl _) _).setCell (Nat.le_refl _) _)
end Go.Proofs.Ytiffminhlimajaa
