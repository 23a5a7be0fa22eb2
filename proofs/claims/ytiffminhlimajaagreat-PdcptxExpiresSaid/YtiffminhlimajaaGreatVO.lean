/- Counter mode: half, Prefix, Block. -/
import Derived.Test.YtiffminhlimajaaGreatVN
import Derived.Test.YtiffminhlimajaaGreatVS
namespace Go.Proofs.YtiffminhlimajaaGreat
open Go.RowKit
set_option linter.unusedVariables false
attribute [local go_sem ↓] Go.wp_at_zero Go.wp_at_succ

/-- n bytes -/
def bA (n : Nat) (f : Nat → Nat) : Array Value := Array.ofFn (n := n) fun j => .int .u8 ((f j.1 : Nat) : Int)
theorem bA_size (n : Nat) (f : Nat → Nat) : (bA n f).size = n := by simp [bA]
theorem bA_at (n : Nat) (f : Nat → Nat) {j : Nat} (h : j < n) : (bA n f)[j]? = some (.int .u8 ((f j : Nat) : Int)) := by simp [bA, h]
theorem bA_one (n : Nat) (f : Nat → Nat) : (bA n f).all (·.oneCell') = true := by
  rw [Array.all_eq_true]
  intro i hi
  simp only [bA, Array.getElem_ofFn]
  rfl
theorem bA_ext {n : Nat} {f : Nat → Nat} {cs : Array Value} (hs : cs.size = n) (h : ∀ j, j < n → cs[j]? = some (.int .u8 ((f j : Nat) : Int))) : cs = bA n f := by
  apply Array.ext_getElem?
  intro j
  by_cases hj : j < n
  · rw [h j hj, bA_at n f hj]
  · rw [Array.getElem?_eq_none (by omega), Array.getElem?_eq_none (by rw [bA_size]; omega)]
theorem bA_congr {n : Nat} {f g : Nat → Nat} (h : ∀ j, j < n → f j = g j) : bA n f = bA n g := bA_ext (bA_size n f) (fun j hj => by rw [bA_at n f hj, h j hj])
theorem bA_upd (n : Nat) (f : Nat → Nat) (i x : Nat) (hi : i < n) : (bA n f).setIfInBounds i (.int .u8 (x : Int)) = bA n (upd f i x) := by
  refine bA_ext (by simp [bA]) fun j hj => ?_
  rw [Array.getElem?_setIfInBounds, bA_size]
  by_cases e : i = j
  · subst e; rw [if_pos rfl, if_pos hi]; simp [upd]
  · have e2 : ¬ j = i := fun h => e h.symm
    rw [if_neg e, bA_at n f hj]; simp [upd, e2]
theorem b16_bA (f : Nat → Nat) : b16 f = bA 16 f := rfl
def halfK (v k : Nat) : Nat → Nat := fun j => if j < k then halfB v j else 0
theorem size8 (f : Nat → Nat) : (Tryz.prog.info? 109).map (·.size) = some (bA 8 f).size := by rw [bA_size]; kernel_rfl
set_option maxRecDepth 100000 in
set_option maxHeartbeats 1600000 in
theorem half_ok (v : Nat) (hv : v < 18446744073709551616) (w : World) : Calls Tryz.prog 90 #[.int .u64 v] w fun e w' => e = .returned (.agg (bA 8 (halfB v))) ∧ Below w.heap.size w w' := by
  have HE : Hid (bA 8 (halfK v 8) = bA 8 (halfB v)) := Lib.hid (bA_congr fun j hj => by unfold halfK; rw [if_pos hj])
  have H0 : Hid (bA 8 (halfK v 0) = #[.int .u8 0, .int .u8 0, .int .u8 0, .int .u8 0, .int .u8 0, .int .u8 0, .int .u8 0, .int .u8 0]) := Lib.hid (by rw [show halfK v 0 = fun _ => 0 from by funext j; unfold halfK; rw [if_neg (by omega)]]; rfl)
  have HS := Lib.hid (fun k (hk : k < 8) => (show (bA 8 (halfK v k)).setIfInBounds k (.int .u8 (halfB v k : Nat)) = bA 8 (halfK v (k + 1)) by
    rw [bA_upd 8 _ _ _ hk]
    refine bA_congr fun j hj => ?_
    unfold upd halfK
    by_cases e : j = k
    · subst e; rw [if_pos rfl, if_pos (by omega)]
    · rw [if_neg e]
      by_cases h2 : j < k
      · rw [if_pos h2, if_pos (by omega)]
      · rw [if_neg h2, if_neg (by omega)]))
  have HV : Hid (v < 18446744073709551616) := Lib.hid hv
  clear hv
  go_enter Tryz.func90, Tryz.ntmps90
  go_upto_region 1 with (fail)
  obtain ⟨g, hg⟩ : ∃ g, g = w.heap.size := ⟨_, rfl⟩
  refine wp_let (fun V => Blk V g 109 (bA 8 (halfK v 0)) ∧ Below w.heap.size w V) ⟨by rw [hg, H0.out]; exact Blk.new _ _ _, (Below.refl _ _).alloc (Nat.le_refl _) _⟩ ?_
  rintro W1 ⟨b1, b2⟩
  have B1 := Lib.hid b1
  have B2 := Lib.hid b2
  have HG := Lib.hid hg
  rw [← hg]
  clear b1 b2 hg
  go_wp2
  go_loopw [4] (fun x wr => ∃ k : Nat, k ≤ 8 ∧ x = .int .i64 k ∧ Blk wr g 109 (bA 8 (halfK v k)) ∧ Below w.heap.size w wr) (fun x _ => 8 - (intOf x).toNat)
  case atStart => exact ⟨0, by omega, rfl, B1.out, B2.out⟩
  case round =>
    clear B1 B2
    obtain ⟨k, hk, rfl, hB, hb⟩ := hrel
    have HB := Lib.hid hB
    have HBW := Lib.hid hb
    clear hB hb
    by_cases hlt : k < 8
    · have k0 : (0 : Int) ≤ (k : Int) := by omega
      have k1 : (k : Int) < 8 := by omega
      have s0 : (0 : Int) ≤ 56 - 8 * (k : Int) := by omega
      have s1 : ((56 : Int) - 8 * (k : Int)).toNat = 56 - 8 * k := by omega
      have c0 : wr.cell? ⟨g, k, none⟩ = some (.int .u8 (halfK v k k : Nat)) := (HB.out.cell k).trans (bA_at 8 _ hlt)
      have f0 := HB.out.frozen k
      have hq : ((v : Int) / 2 ^ (56 - 8 * k)) % 256 = ((halfB v k : Nat) : Int) := by
        unfold halfB
        rw [Int.natCast_emod, Int.natCast_ediv, Int.natCast_pow]
        rfl
      have HSk := Lib.hid (HS.out k hlt)
      go_wp2
      go_roundw
      case rel =>
        refine ⟨k + 1, by omega, by go_num, ?_, HBW.out.setCell (p := ⟨g, k, none⟩) (by rw [HG.out]; exact Nat.le_refl _) _⟩
        rw [← HSk.out]
        exact HB.out.set_ k _
      case measure => simp [intOf]; omega
    · obtain rfl : k = 8 := by omega
      have HX : Hid ((Tryz.prog.info? 109).map (·.size) = some (bA 8 (halfK v 8)).size) := Lib.hid (size8 _)
      have HO := Lib.hid (bA_one 8 (halfK v 8))
      obtain ⟨X, hX⟩ : ∃ X, X = bA 8 (halfK v 8) := ⟨_, rfl⟩
      rw [← hX] at HB HX HO HE
      clear hX
      have n1 : ¬ (8 : Int) < 8 := by omega
      go_wp2_with (first
        | (refine wpList_load_row rfl _ _ rfl g rfl 109 X (0, 0) _ HB.out Tryz.underlying109 rfl HX.out ?_)
        | (refine wpList_store_row rfl _ _ _ rfl g X rfl rfl 109 X HB.out HX.out rfl HO.out ?_))
      refine bodyPost_ret (v := .agg X) (results_cell_row (g := g) (t := 109) (fr := (0, 0)) Tryz.results90 _ _ X _ rfl (setRow_heap wr g X X 109 (0, 0) HB.out) Tryz.underlying109 rfl HX.out) rfl ⟨by rw [HE.out], ?_⟩
      exact belowRow HBW.out (by rw [HG.out]; exact Nat.le_refl _) _
theorem pfx_or (ct b d : Nat) (hc : ct < 4294967296) (hb : b < 32) (hd : d < 2) : bits .or .u64 (bits .or .u64 ((ct : Int) * 4294967296) ((b : Int) * 134217728)) ((d : Int) * 67108864) = ((pfx ct b d : Nat) : Int) := by
  have e1 : (ct : Int) * 4294967296 = ((ct * 2 ^ 32 : Nat) : Int) := by omega
  have e2 : (b : Int) * 134217728 = ((b * 2 ^ 27 : Nat) : Int) := by omega
  have e3 : (d : Int) * 67108864 = ((d * 2 ^ 26 : Nat) : Int) := by omega
  rw [e1, e2, e3, u64_or_nat _ _ (by omega) (by omega), or_shift _ _ _ (by omega)]
  rw [show ct * 2 ^ 32 + b * 2 ^ 27 = (ct * 2 ^ 5 + b) * 2 ^ 27 by omega, u64_or_nat _ _ (by omega) (by omega), or_shift _ _ _ (by omega)]
  unfold pfx
  omega
set_option maxRecDepth 100000 in
set_option maxHeartbeats 1600000 in
theorem prefix_ok (ct b d : Nat) (hc : ct < 4294967296) (hb : b < 32) (hd : d < 2) (w : World) : Calls Tryz.prog 52 #[.int .u32 ct, .int .i64 b, .int .i64 d] w fun e w' => e = .returned (.tuple #[.agg (bA 8 (halfB (pfx ct b d))), .int .i64 0]) ∧ Below w.heap.size w w' := by
  have c0 : (0 : Int) ≤ (ct : Int) := by omega
  have c1 : (ct : Int) < 4294967296 := by omega
  have b0 : ¬ (b : Int) < 0 := by omega
  have b1 : ¬ (31 : Int) < (b : Int) := by omega
  have HP := Lib.hid (pfx_or ct b d hc hb hd)
  have HH := Lib.hid (fun V => half_ok (pfx ct b d) (pfx_lt hc hb hd) V)
  obtain ⟨ZB, hZB⟩ : ∃ ZB : Array Value, ZB = #[.int .u8 0, .int .u8 0, .int .u8 0, .int .u8 0, .int .u8 0, .int .u8 0, .int .u8 0, .int .u8 0] := ⟨_, rfl⟩
  have HZB := Lib.hid hZB
  obtain ⟨X, hX⟩ : ∃ X, X = bA 8 (halfB (pfx ct b d)) := ⟨_, rfl⟩
  have HX : Hid ((Tryz.prog.info? 109).map (·.size) = some X.size) := Lib.hid (by rw [hX]; exact size8 _)
  have HO : Hid (X.all (·.oneCell') = true) := Lib.hid (by rw [hX]; exact bA_one _ _)
  have HZX : Hid (ZB.size = X.size) := Lib.hid (by rw [hX, hZB, bA_size]; rfl)
  rw [← hX] at HH ⊢
  clear hX hZB
  rcases (by omega : d = 0 ∨ d = 1) with rfl | rfl
  all_goals
    go_enter Tryz.func52, Tryz.ntmps52
    go_upto_region 1 with (fail)
    obtain ⟨g, hg⟩ : ∃ g, g = w.heap.size := ⟨_, rfl⟩
    refine wp_let (fun V => Blk V g 109 ZB ∧ Below w.heap.size w V) ⟨by rw [hg, HZB.out]; exact Blk.new _ _ _, (Below.refl _ _).alloc (Nat.le_refl _) _⟩ ?_
    rintro W1 ⟨B1, B2⟩
    have C1 := Lib.hid B1
    have C2 := Lib.hid B2
    have HG := Lib.hid hg
    rw [← hg]
    clear B1 B2 hg
    go_wp2_with (fail)
    first
      | rw [show bits .or .u64 (bits .or .u64 ((ct : Int) * 4294967296) ((b : Int) * 134217728)) 0 = _ from HP.out]
      | rw [show bits .or .u64 (bits .or .u64 ((ct : Int) * 4294967296) ((b : Int) * 134217728)) 67108864 = _ from HP.out]
    refine (HH.out _).mono ?_
    rintro e w4 ⟨rfl, hb4⟩
    have D1 := Lib.hid (C1.out.below hb4 C1.out.lt)
    have D2 := Lib.hid (C2.out.trans (hb4.mono C2.out.size))
    clear hb4
    go_wp2_with (refine wpList_store_row rfl _ _ _ rfl g X rfl rfl 109 ZB D1.out HX.out HZX.out HO.out ?_)
    refine bodyPost_ret (v := .tuple #[.agg X, .int .i64 0]) (results_cell_one (g := g) (t := 109) (fr := (0, 0)) Tryz.results52 _ _ X _ rfl (Blk.setRow D1.out) Tryz.underlying109 rfl HX.out _ rfl) rfl ⟨rfl, belowRow D2.out (by rw [HG.out]; exact Nat.le_refl _) _⟩
end Go.Proofs.YtiffminhlimajaaGreat
